/- Several texts in one, as they stand in wip/src. -/
import Derived.Test.YtdpcahfgdpikfaaGt3
import Derived.Test.YtdpcahfgdpikfaaGt7
/- The blocks of some bytes, as an iterator. -/
namespace Go.Proofs.Ytdpcahfgdpikfaa
open Go Go.RowKit
set_option linter.unusedVariables false
set_option maxRecDepth 4000
theorem go_ShaI {A B : Prop} (h : Held B → A := by
  intro hEnd
  repeat (first | refine OW_geqT rfl rfl (by omega) ?_ | refine OW_geqF rfl rfl (by omega) ?_ | (refine OW_isLoad ?_; refine OW_loadBk one_bytes rfl (by assumption) _ rfl ?_) | refine OW_moveV (.int _ _) rfl ?_ | refine OW_moveV (.slice _ _ _) rfl ?_ | refine OW_moveV (.bool _) rfl ?_ | refine OW_moveV (.pointer _) rfl ?_ | refine OW_moveV (.string _) rfl ?_ | refine OW_moveV (.agg _) rfl ?_ | refine OW_moveV (.tuple _) rfl ?_ | refine OW_nil ?_ | refine thenE_normal ?_ | refine CW_seq ?_ | refine CW_region (by kernel_rfl) ?_ | refine OW_assignV (.int _ _) rfl ?_ | refine OW_assignV (.slice _ _ _) rfl ?_ | refine OW_assignV (.bool _) rfl ?_ | refine OW_assignV (.pointer _) rfl ?_ | refine OW_assignV (.string _) rfl ?_ | refine OW_assignV (.agg _) rfl ?_ | refine OW_assignV (.tuple _) rfl ?_ | refine OW_addI rfl rfl (by omega) ?_ | refine OW_subI rfl rfl (by omega) ?_ | refine OW_mulI rfl rfl (by omega) ?_ | refine OW_lss rfl rfl ?_ | refine OW_extract rfl rfl ?_ | refine OW_gtr rfl rfl ?_ | refine OW_leq rfl rfl ?_ | refine OW_geq rfl rfl ?_ | refine OW_eql rfl rfl ?_ | refine OW_neq rfl rfl ?_ | refine OW_not rfl ?_ | refine OW_pickT rfl _ rfl ?_ | refine OW_pickF rfl (.bool _) rfl ?_ | refine OW_pickB rfl rfl rfl ?_ | refine OW_move ?_ | refine OW_assign ?_ | refine OW_pass rfl ?_ | refine OW_take rfl ?_ | refine OW_lenS (by first | with_reducible exact und_bytes | with_reducible exact und_bytess) rfl ?_ | refine OW_convInt (by first | with_reducible exact und_u8 | with_reducible exact und_u64 | with_reducible exact und_int | with_reducible exact und_u32) (by first | with_reducible exact und_u8 | with_reducible exact und_u64 | with_reducible exact und_int | with_reducible exact und_u32) rfl ?_ | refine OW_add rfl rfl ?_ | refine OW_sub rfl rfl ?_ | refine OW_mul rfl rfl ?_ | refine OW_min2 rfl rfl ?_ | refine OW_max2 rfl rfl ?_ | refine OW_neg rfl ?_ | refine CW_block ?_ | refine CW_condT rfl ?_ | refine CW_condF rfl ?_ | refine CW_exit ?_ | refine CW_ret ?_ | refine CW_skip ?_ | refine LW_seq ?_ | refine LW_regC ?_ | refine LW_condC ?_ | refine LW_regF ?_ | refine LW_condF ?_ | refine FW_seq ?_ | refine FW_region (by kernel_rfl) ?_ | refine FW_block ?_ | refine FW_condT rfl ?_ | refine FW_condF rfl ?_ | refine FW_exit ?_ | refine FW_ret ?_ | refine FW_skip ?_ | refine LW_ret ?_ | refine LW_skip ?_ | refine thenE_exit ?_ | refine thenE_ret ?_ | refine inBlockE_normal ?_ | refine inBlockE_same ?_ | refine inBlockE_ret ?_ | refine inBlockE_ne (by rfl) ?_ | refine OW_eqlB (by with_reducible exact und_bool) rfl rfl ?_ | refine OW_neqB (by with_reducible exact und_bool) rfl rfl ?_ | refine OW_idxS (by with_reducible exact und_bytes) one_u8 rfl rfl _ rfl (by omega) ?_ | refine OW_idxS (by with_reducible exact und_bytess) one_bytes rfl rfl _ rfl (by omega) ?_ | refine OW_load1 (by first | with_reducible exact one_u8 | with_reducible exact one_bytes) rfl _ (by assumption) ?_)
  exact hEnd.out) (k : B) : A := h ⟨k⟩
section
variable {P : Program} {ops : Array Oper} {Q : Exit → (Nat → Value) → World → Prop} {rest : List Oper} {e : Nat → Value} {w : World} {d : Tmp} {ty : TypeId} {pos : String} {aft : Array Edge}
theorem OWF_pre : ∀ (pre : List Oper) {e : Nat → Value} {w : World}, OW P ops (fun _ e' w' => OWF P ops Q rest e' w') pre e w → OWF P ops Q (pre ++ rest) e w
  | [], e, w, h => by unfold OW at h; exact h
  | o :: pre, e, w, h => by
    refine OWF_one ?_
    unfold OW at h ⊢
    split
    · rename_i hw
      rw [if_pos hw] at h
      exact opW_mono h fun v w' hv => by unfold OW; exact OWF_pre pre hv
    · rename_i hw
      rw [if_neg hw] at h
      unfold OW
      exact OWF_pre pre h
theorem OWF_take (k : Nat) {l : List Oper} (h : OW P ops (fun _ e' w' => OWF P ops Q (l.drop k) e' w') (l.take k) e w) : OWF P ops Q l e w := by
  have := OWF_pre (l.take k) h
  rwa [List.take_append_drop] at this
theorem OW_geqT {x y : Operand} {t t' : TypeId} {k : IntKind} {a b : Int} (hx : ev e x = .int k a) (hy : ev e y = .int k b) (hh : b ≤ a) (h : OW P ops Q rest (upd e d (.bool true)) w) : OW P ops Q (⟨some d, .binOp .geq t x y t', ty, pos, aft, none⟩ :: rest) e w :=
  OW_geq hx hy (by rw [decide_eq_true hh]; exact h)
theorem OW_geqF {x y : Operand} {t t' : TypeId} {k : IntKind} {a b : Int} (hx : ev e x = .int k a) (hy : ev e y = .int k b) (hh : a < b) (h : OW P ops Q rest (upd e d (.bool false)) w) : OW P ops Q (⟨some d, .binOp .geq t x y t', ty, pos, aft, none⟩ :: rest) e w :=
  OW_geq hx hy (by rw [decide_eq_false (by omega)]; exact h)
end
theorem cutA_block {A : Option Addr} {m l : Nat} {ad : Addr} (h : cutA A m l = some ad) : ∃ a0, A = some a0 ∧ ad.block = a0.block := by
  unfold cutA at h
  split at h
  · exact ⟨ad, h, rfl⟩
  · cases A with
    | none => cases h
    | some a => exact ⟨a, rfl, by cases h; exact addr_add_block a l⟩
section
variable {P : Program} {ops : Array Oper} {Q : Exit → (Nat → Value) → World → Prop} {rest : List Oper} {e : Nat → Value} {w : World} {d : Tmp} {ty : TypeId} {pos : String} {aft : Array Edge}
/-- A cut of bytes: it stands in the same block. -/
theorem OW_sliceBb {x : Operand} {t el : TypeId} {A : Option Addr} {n c : Nat} {l : List UInt8} {lo hi : Option Operand} {lv hv : Int} (ht : P.underlying t = some (.slice el)) (hel : OneT P el) (hbs : Bs w A l) (hn : n = l.length) (hc : n ≤ c) (hx : ev e x = .slice A n c)
    (hlo : bnd e lo 0 lv) (hhi : bnd e hi n hv) (lN hN : Nat) (hl : lv = (lN : Int)) (hh : hv = (hN : Int)) (hb : lN ≤ hN ∧ hN ≤ n)
    (h : ∀ A', Bs w A' ((l.drop lN).take (hN - lN)) → (∀ ad, A' = some ad → ∃ a0, A = some a0 ∧ ad.block = a0.block) → OW P ops Q rest (upd e d (.slice A' (hN - lN) (c - lN))) w) : OW P ops Q (⟨some d, .slice t x lo hi none, ty, pos, aft, none⟩ :: rest) e w := by
  subst hl; subst hh
  have := h (cutA A c lN) (hbs.cut c lN (hN - lN) (by omega)) (fun ad ha => cutA_block ha)
  exact OW_slice (mx := none) (mv := c) ht hel hx hlo hhi rfl (fun h => by cases h) (by omega) (by simpa using this)
end
def okB (L : List UInt8) (dA : Option Addr) (pre : List BV) (x : BV) (w : World) : Prop :=
  Bs w x.1 x.2.2 ∧ x.2.2 = chunk L pre.length ∧ pre.length < L.length / 64 ∧ 64 ≤ x.2.1 ∧ ∀ ad, x.1 = some ad → ∃ a0, dA = some a0 ∧ ad.block = a0.block
def nB (L : List UInt8) (gB : Nat) (dA : Option Addr) (k : Nat) : Prop := k = gB ∨ (L ≠ [] ∧ ∃ ad, dA = some ad ∧ ad.block = k)
def preB (L : List UInt8) (gB : Nat) (dA : Option Addr) (c : Nat) (W : World) : Prop := Blk W gB 22 #[.slice dA L.length c] ∧ Bs W dA L ∧ L.length ≤ c ∧ ∀ ad, dA = some ad → ad.block ≠ gB
def lenAt (w : World) (g : Nat) : Nat := match w.cell? ⟨g, 0, none⟩ with | some (.slice _ n _) => n | _ => 0
theorem lenAt_of {w : World} {g n c : Nat} {A : Option Addr} {T : TypeId} (h : Blk w g T #[.slice A n c]) : lenAt w g = n := by
  unfold lenAt
  rw [h.cell]
  rfl
set_option maxHeartbeats 4000000 in
theorem blocks_iter (L : List UInt8) (gB : Nat) (dA : Option Addr) (c : Nat) :
    Iter Try.prog 95 [.pointer (some ⟨gB, 0, none⟩)] (fun x : BV => [sv x]) (okB L dA) (· = gB) (nB L gB dA) (preB L gB dA c) (fun xs => xs.length = L.length / 64) (fun _ => True) where
  ok := by
    rintro pre x A B ⟨h1, h2, h3, h4, h5⟩ hk
    refine ⟨h1.keeps hk fun ad ha hn => hn ?_, h2, h3, h4, h5⟩
    obtain ⟨a0, h6, h7⟩ := h5 ad ha
    refine .inr ⟨fun h0 => ?_, a0, h6, h7.symm⟩
    rw [h0] at h3
    simp at h3
  run := by
    intro l J Jx W hP hJ hJx hy hJ0
    obtain ⟨hB0, hb0, hc0, hd⟩ := hP
    refine calls_of_LW Try.func95 rfl (by simp [Try.ntmps95]) ?_
    refine LW_codeF (FW_block ?_)
    refine FW_loop (fun e w => ∃ (xs : List BV) (A : Option Addr) (n c2 : Nat) (T : List UInt8), e 0 = .func (.yield l) #[] #[] ∧ e 1 = .pointer (some ⟨gB, 0, none⟩) ∧ Blk w gB 22 #[.slice A n c2] ∧ n = L.length - 64 * xs.length ∧ 64 * xs.length ≤ L.length ∧ n ≤ c2 ∧ T = L.drop (64 * xs.length) ∧ Bs w A T ∧ (∀ ad, A = some ad → ∃ a0, dA = some a0 ∧ ad.block = a0.block) ∧ J xs w) (fun e w => lenAt w gB) ?_ ?_
    · exact ⟨[], dA, L.length, c, L, rfl, rfl, hB0, by simp, by simp, hc0, by simp, hb0, fun ad h => ⟨ad, h, rfl⟩, hJ0⟩
    rintro e w ⟨xs, A, n, c2, T, e0, e1, hB, hn, hle, hc, hT, hb, hA, hj⟩
    rw [upd_self e0, upd_self e1]
    have hm := lenAt_of hB
    have hTl : T.length = n := by rw [hT, List.length_drop]; omega
    refine FW_seq (FW_seq ?_)
    rcases Nat.lt_or_ge n 64 with hlt | hge
    · refine FW_region (by kernel_rfl) ?_
      refine go_ShaI (k := ?_)
      exact LW_end (leave_of (bodyE_end (bodyE_ret0 rfl ⟨_, rfl, .inl ⟨xs, by omega, hj⟩⟩)))
    · refine FW_regionF (by kernel_rfl) ?_
      refine OWF_take 7 ?_
      simp only [List.take_succ_cons, List.take_zero, List.drop_succ_cons, List.drop_zero]
      refine go_ShaI (k := ?_)
      refine OW_sliceBb und_bytes one_u8 hb hTl.symm hc rfl rfl ⟨_, rfl⟩ 0 64 rfl rfl (by omega) ?_
      intro A2 hb2 hA2
      have hch : (T.drop 0).take (64 - 0) = chunk L xs.length := by rw [hT]; rfl
      have hlc : (chunk L xs.length).length = 64 := chunk_length (by omega)
      rw [hch] at hb2
      refine OW_nil ?_
      have hok : okB L dA xs (A2, c2 - 0, chunk L xs.length) w := ⟨hb2, rfl, by omega, by show 64 ≤ c2 - 0; omega, fun ad ha => by
        obtain ⟨a0, h1, h2⟩ := hA2 ad ha
        obtain ⟨a1, h3, h4⟩ := hA a0 h1
        exact ⟨a1, h3, h2.trans h4⟩⟩
      have hsv : Value.slice A2 (64 - 0) (c2 - 0) = sv (A2, c2 - 0, chunk L xs.length) := by unfold sv; rw [hlc]
      rw [hsv]
      refine OWF_yield rfl rfl rfl ((hy xs _ w hj hok).mono ?_)
      rintro en w1 (⟨rfl, hj1, hk1⟩ | ⟨rfl, hj1⟩)
      · refine ⟨_, rfl, ?_⟩
        refine OWF_take 1 ?_
        simp only [List.take_succ_cons, List.take_zero, List.drop_succ_cons, List.drop_zero]
        refine go_ShaI (k := ?_)
        refine OWF_nil ?_
        refine go_ShaI (k := ?_)
        have hBd : ∀ ad, A = some ad → ad.block ≠ gB := fun ad ha => by
          obtain ⟨a0, h1, h2⟩ := hA ad ha
          rw [h2]; exact hd a0 h1
        have hne : L ≠ [] := fun h => by rw [h] at hn; simp at hn; omega
        have hN : ∀ k, nB L gB dA k → ¬ ¬ nB L gB dA k := fun k h hn => hn h
        have hB1 := hB.keeps hk1 (hN gB (.inl rfl))
        have hb1 := hb.keeps hk1 (fun ad ha => hN _ (.inr ⟨hne, by obtain ⟨a0, h1, h2⟩ := hA ad ha; exact ⟨a0, h1, h2.symm⟩⟩))
        refine OW_isLoad ?_
        refine OW_loadBk one_bytes rfl hB1 (.slice A n c2) rfl ?_
        refine OW_sliceBb und_bytes one_u8 hb1 hTl.symm hc rfl ⟨_, rfl⟩ rfl 64 n rfl rfl (by omega) ?_
        intro A3 hb3 hA3
        refine go_ShaI (k := ?_)
        refine OW_storeB one_bytes rfl (.slice A3 (n - 64) (c2 - 64)) rfl rfl hB1 (Nat.one_pos) ?_
        intro w2 hB2 hgr
        have hk2 : Keeps w1 w2 (· = gB) := Keeps.of_only hgr rfl
        refine go_ShaI (k := ?_)
        refine ⟨⟨xs ++ [(A2, c2 - 0, chunk L xs.length)], A3, n - 64, c2 - 64, T.drop 64, rfl, rfl, hB2, by simp; omega, by simp; omega, by omega, by rw [hT, List.drop_drop]; congr 1; simp; omega, ?_, ?_, hJ _ _ _ hj1 hk2⟩, ?_⟩
        · rw [List.take_of_length_le (by simp; omega)] at hb3
          refine hb3.keeps hk2 (fun ad ha => ?_)
          obtain ⟨a0, h1, h2⟩ := hA3 ad ha
          rw [h2]; exact hBd a0 h1
        · intro ad ha
          obtain ⟨a0, h1, h2⟩ := hA3 ad ha
          obtain ⟨a1, h3, h4⟩ := hA a0 h1
          exact ⟨a1, h3, h2.trans h4⟩
        · rw [lenAt_of hB2, hm]; omega
      · refine ⟨_, rfl, ?_⟩
        refine OWF_take 1 ?_
        simp only [List.take_succ_cons, List.take_zero, List.drop_succ_cons, List.drop_zero]
        refine go_ShaI (k := ?_)
        refine OWF_nil ?_
        refine go_ShaI (k := ?_)
        exact LW_end (leave_of (bodyE_end (bodyE_ret0 rfl ⟨_, rfl, .inr ⟨_, trivial, hj1⟩⟩)))
end Go.Proofs.Ytdpcahfgdpikfaa

/- Walks: a Hash that was made: New, none, Len, blocks. -/
namespace Go.Proofs.Ytdpcahfgdpikfaa
open Go Go.RowKit
set_option linter.unusedVariables false
set_option maxRecDepth 4000
theorem go_Sha3 {A B : Prop} (h : Held B → A := by
  intro hEnd
  repeat (first | refine OW_nilCheck rfl ?_ | refine OW_fieldB fldo_H0 rfl ?_ | refine OW_fieldB fldo_H1 rfl ?_ | refine OW_fieldB fldo_H2 rfl ?_ | refine OW_fieldB fldo_H3 rfl ?_ | refine OW_eqlNil und_pH rfl ?_ | refine OW_moveV (.int _ _) rfl ?_ | refine OW_moveV (.slice _ _ _) rfl ?_ | refine OW_moveV (.bool _) rfl ?_ | refine OW_moveV (.pointer _) rfl ?_ | refine OW_moveV (.string _) rfl ?_ | refine OW_moveV (.agg _) rfl ?_ | refine OW_moveV (.tuple _) rfl ?_ | refine OW_nil ?_ | refine thenE_normal ?_ | refine CW_seq ?_ | refine CW_region (by kernel_rfl) ?_ | refine OW_assignV (.int _ _) rfl ?_ | refine OW_assignV (.slice _ _ _) rfl ?_ | refine OW_assignV (.bool _) rfl ?_ | refine OW_assignV (.pointer _) rfl ?_ | refine OW_assignV (.string _) rfl ?_ | refine OW_assignV (.agg _) rfl ?_ | refine OW_assignV (.tuple _) rfl ?_ | refine OW_addI rfl rfl (by omega) ?_ | refine OW_subI rfl rfl (by omega) ?_ | refine OW_mulI rfl rfl (by omega) ?_ | refine OW_lss rfl rfl ?_ | refine OW_extract rfl rfl ?_ | refine OW_gtr rfl rfl ?_ | refine OW_leq rfl rfl ?_ | refine OW_geq rfl rfl ?_ | refine OW_eql rfl rfl ?_ | refine OW_neq rfl rfl ?_ | refine OW_not rfl ?_ | refine OW_pickT rfl _ rfl ?_ | refine OW_pickF rfl (.bool _) rfl ?_ | refine OW_pickB rfl rfl rfl ?_ | refine OW_move ?_ | refine OW_assign ?_ | refine OW_pass rfl ?_ | refine OW_take rfl ?_ | refine OW_lenS (by first | with_reducible exact und_bytes | with_reducible exact und_bytess) rfl ?_ | refine OW_convInt (by first | with_reducible exact und_u8 | with_reducible exact und_u64 | with_reducible exact und_int | with_reducible exact und_u32) (by first | with_reducible exact und_u8 | with_reducible exact und_u64 | with_reducible exact und_int | with_reducible exact und_u32) rfl ?_ | refine OW_add rfl rfl ?_ | refine OW_sub rfl rfl ?_ | refine OW_mul rfl rfl ?_ | refine OW_min2 rfl rfl ?_ | refine OW_max2 rfl rfl ?_ | refine OW_neg rfl ?_ | refine CW_block ?_ | refine CW_condT rfl ?_ | refine CW_condF rfl ?_ | refine CW_exit ?_ | refine CW_ret ?_ | refine CW_skip ?_ | refine LW_seq ?_ | refine LW_regC ?_ | refine LW_condC ?_ | refine LW_regF ?_ | refine LW_condF ?_ | refine FW_seq ?_ | refine FW_region (by kernel_rfl) ?_ | refine FW_block ?_ | refine FW_condT rfl ?_ | refine FW_condF rfl ?_ | refine FW_exit ?_ | refine FW_ret ?_ | refine FW_skip ?_ | refine LW_ret ?_ | refine LW_skip ?_ | refine thenE_exit ?_ | refine thenE_ret ?_ | refine inBlockE_normal ?_ | refine inBlockE_same ?_ | refine inBlockE_ret ?_ | refine inBlockE_ne (by rfl) ?_ | refine OW_eqlB (by with_reducible exact und_bool) rfl rfl ?_ | refine OW_neqB (by with_reducible exact und_bool) rfl rfl ?_ | refine OW_idxS (by with_reducible exact und_bytes) one_u8 rfl rfl _ rfl (by omega) ?_ | refine OW_idxS (by with_reducible exact und_bytess) one_bytes rfl rfl _ rfl (by omega) ?_ | refine OW_load1 (by first | with_reducible exact one_u8 | with_reducible exact one_bytes) rfl _ (by assumption) ?_)
  exact hEnd.out) (k : B) : A := h ⟨k⟩
section
variable {P : Program} {ops : Array Oper} {Q : Exit → (Nat → Value) → World → Prop} {rest : List Oper} {e : Nat → Value} {w : World} {d : Tmp} {ty : TypeId} {pos : String} {aft : Array Edge}
theorem OW_fieldB {x : Operand} {t : TypeId} {g f o : Nat} (hr : FldO P t f o) (hx : ev e x = .pointer (some ⟨g, 0, none⟩))
    (h : OW P ops Q rest (upd e d (.pointer (some ⟨g, o, none⟩))) w) : OW P ops Q (⟨some d, .fieldAddr t x f, ty, pos, aft, none⟩ :: rest) e w :=
  OW_fieldO hr hx (by rw [addr0]; exact h)
end
theorem und_pH : Try.prog.underlying 24 = some (.pointer 97) := Try.underlying24
theorem fldo_H0 : FldO Try.prog 97 0 0 := ⟨fun w a => by kernel_rfl⟩
theorem fldo_H1 : FldO Try.prog 97 1 1 := ⟨fun w a => by kernel_rfl⟩
theorem fldo_H2 : FldO Try.prog 97 2 9 := ⟨fun w a => by kernel_rfl⟩
theorem fldo_H3 : FldO Try.prog 97 3 10 := ⟨fun w a => by kernel_rfl⟩
/-- A hash's cells. -/
def hcells (s : N8) (A : Option Addr) (n c k : Nat) : List Value := .bool true :: (s.cells ++ [.slice A n c, .int .i64 k])
theorem bld_H : ∀ w, (Instr.build 97 [(0, .bool true), (1, .agg iv8.cells.toArray)].toArray).run Try.prog w = .ok (.agg (hcells iv8 none 0 0 0).toArray) w := fun w => by kernel_rfl
/-- A hash that was made, at block g, of the bytes l; its blocks lie in S. -/
structure HR (w : World) (g : Nat) (S : Nat → Prop) (l : List UInt8) : Prop where
  in_ : S g
  at_ : ∃ A c, Blk w g 97 (hcells (allB iv8 l) A (restB l).length c l.length).toArray ∧ Bs w A (restB l) ∧ (restB l).length ≤ c ∧ ∀ ad, A = some ad → S ad.block ∧ ad.block ≠ g
  bd : ∀ k, S k → k < w.heap.size
theorem HR.keeps {w w' : World} {g : Nat} {S X : Nat → Prop} {l : List UInt8} (h : HR w g S l) (hk : Keeps w w' X) (hn : ∀ k, S k → ¬ X k) : HR w' g S l := by
  obtain ⟨A, c, h1, h2, h3, h4⟩ := h.at_
  exact ⟨h.in_, ⟨A, c, h1.keeps hk (hn g h.in_), h2.keeps hk (fun ad ha => hn _ (h4 ad ha).1), h3, h4⟩, fun k hk2 => Nat.lt_of_lt_of_le (h.bd k hk2) hk.size⟩
theorem HR.ext {w w' : World} {g : Nat} {S : Nat → Prop} {l : List UInt8} (h : HR w g S l) (hk : Ext w w') : HR w' g S l := by
  obtain ⟨A, c, h1, h2, h3, h4⟩ := h.at_
  exact ⟨h.in_, ⟨A, c, h1.ext hk, h2.ext hk, h3, h4⟩, fun k hk2 => Nat.lt_of_lt_of_le (h.bd k hk2) hk.size⟩
theorem HR.mono {w : World} {g : Nat} {S S' : Nat → Prop} {l : List UInt8} (h : HR w g S l) (hs : ∀ k, S k → S' k) (hb : ∀ k, S' k → k < w.heap.size) : HR w g S' l := by
  obtain ⟨A, c, h1, h2, h3, h4⟩ := h.at_
  exact ⟨hs g h.in_, ⟨A, c, h1, h2, h3, fun ad ha => ⟨hs _ (h4 ad ha).1, (h4 ad ha).2⟩⟩, hb⟩
theorem hcells_one (s : N8) (A : Option Addr) (n c k : Nat) : ∀ v ∈ hcells s A n c k, v.oneCell' = true := by
  intro v hv
  simp only [hcells, List.mem_cons, List.mem_append, List.not_mem_nil, or_false] at hv
  rcases hv with rfl | hv | rfl | rfl
  · rfl
  · exact uv_one _ v hv
  · rfl
  · rfl
set_option maxHeartbeats 8000000 in
theorem newHash_any (w : World) : Calls Try.prog 15 #[] w (fun en w' => ∃ g, en = .returned (.pointer (some ⟨g, 0, none⟩)) ∧ w.heap.size ≤ g ∧ Ext w w' ∧ HR w' g (more (fun _ => False) w w') []) := by
  refine calls_of_CW Try.func15 rfl (by simp [Try.ntmps15]) ?_
  rw [Try.ntmps15]
  refine go_Sha3 (k := ?_)
  refine OW_callV Try.func61 (by kernel_rfl) rfl (first_any w) rfl ?_
  intro w1 hx1
  refine go_Sha3 (k := ?_)
  refine OW_build _ _ bld_H rfl ?_
  refine go_Sha3 (k := ?_)
  refine OW_box _ rfl ?_
  intro w2 g hb hg hlt hx
  refine go_Sha3 (k := ?_)
  have s1 := hx1.size
  exact bodyE_ret1 rfl (.pointer (some ⟨g, 0, none⟩)) rfl ⟨g, rfl, by omega, hx1.trans' hx, .inr ⟨by omega, hlt⟩, ⟨none, 0, hb, Bs.nil _ _, Nat.le_refl _, fun ad h => by cases h⟩, fun k hk => by rcases hk with h | h; exact h.elim; exact h.2⟩
set_option maxHeartbeats 8000000 in
theorem none_any (w : World) (g : Nat) (s : N8) (A : Option Addr) (n c k : Nat) (h : Blk w g 97 (hcells s A n c k).toArray) : Calls Try.prog 62 #[.pointer (some ⟨g, 0, none⟩)] w (RetV w (.bool false)) := by
  refine calls_of_CW Try.func62 rfl (by simp [Try.ntmps62]) ?_
  rw [Try.ntmps62]
  refine go_Sha3 (k := ?_)
  refine OW_isLoad ?_
  refine OW_loadBk s_bool rfl h (.bool true) rfl ?_
  refine go_Sha3 (k := ?_)
  exact bodyE_ret1 rfl (.bool false) rfl ⟨rfl, Ext.rfl' _⟩
set_option maxHeartbeats 8000000 in
theorem blocks_any (w : World) (A : Option Addr) (n c : Nat) : Calls Try.prog 63 #[.slice A n c] w (fun en w' => ∃ g, en = .returned (.func (.func 95) #[] #[.pointer (some ⟨g, 0, none⟩)]) ∧ Blk w' g 22 #[.slice A n c] ∧ w.heap.size ≤ g ∧ Ext w w') := by
  refine calls_of_CW Try.func63 rfl (by simp [Try.ntmps63]) ?_
  rw [Try.ntmps63]
  refine go_Sha3 (k := ?_)
  refine OW_box _ rfl ?_
  intro w1 g hb hg hlt hx
  refine go_Sha3 (k := ?_)
  refine OW_mkFunc [.pointer (some ⟨g, 0, none⟩)] rfl ?_
  refine go_Sha3 (k := ?_)
  exact bodyE_ret1 rfl _ rfl ⟨g, rfl, hb, hg, hx⟩
end Go.Proofs.Ytdpcahfgdpikfaa

/- Walk: Write of a Hash that was made. -/
namespace Go.Proofs.Ytdpcahfgdpikfaa
open Go Go.RowKit
set_option linter.unusedVariables false
set_option maxRecDepth 4000
theorem go_Sha4 {A B : Prop} (h : Held B → A := by
  intro hEnd
  repeat (first | refine OW_nilCheck rfl ?_ | refine OW_fieldB fldo_H0 rfl ?_ | refine OW_fieldB fldo_H1 rfl ?_ | refine OW_fieldB fldo_H2 rfl ?_ | refine OW_fieldB fldo_H3 rfl ?_ | refine OW_eqlNil und_pH rfl ?_ | (refine OW_isLoad ?_; refine OW_loadAtD agg_nums rfl (by apply_assumption; assumption) rfl ?_) | refine OW_moveV (.int _ _) rfl ?_ | refine OW_moveV (.slice _ _ _) rfl ?_ | refine OW_moveV (.bool _) rfl ?_ | refine OW_moveV (.pointer _) rfl ?_ | refine OW_moveV (.string _) rfl ?_ | refine OW_moveV (.agg _) rfl ?_ | refine OW_moveV (.tuple _) rfl ?_ | refine OW_nil ?_ | refine thenE_normal ?_ | refine CW_seq ?_ | refine CW_region (by kernel_rfl) ?_ | refine OW_assignV (.int _ _) rfl ?_ | refine OW_assignV (.slice _ _ _) rfl ?_ | refine OW_assignV (.bool _) rfl ?_ | refine OW_assignV (.pointer _) rfl ?_ | refine OW_assignV (.string _) rfl ?_ | refine OW_assignV (.agg _) rfl ?_ | refine OW_assignV (.tuple _) rfl ?_ | refine OW_addI rfl rfl (by omega) ?_ | refine OW_subI rfl rfl (by omega) ?_ | refine OW_mulI rfl rfl (by omega) ?_ | refine OW_lss rfl rfl ?_ | refine OW_extract rfl rfl ?_ | refine OW_gtr rfl rfl ?_ | refine OW_leq rfl rfl ?_ | refine OW_geq rfl rfl ?_ | refine OW_eql rfl rfl ?_ | refine OW_neq rfl rfl ?_ | refine OW_not rfl ?_ | refine OW_pickT rfl _ rfl ?_ | refine OW_pickF rfl (.bool _) rfl ?_ | refine OW_pickB rfl rfl rfl ?_ | refine OW_move ?_ | refine OW_assign ?_ | refine OW_pass rfl ?_ | refine OW_take rfl ?_ | refine OW_lenS (by first | with_reducible exact und_bytes | with_reducible exact und_bytess) rfl ?_ | refine OW_convInt (by first | with_reducible exact und_u8 | with_reducible exact und_u64 | with_reducible exact und_int | with_reducible exact und_u32) (by first | with_reducible exact und_u8 | with_reducible exact und_u64 | with_reducible exact und_int | with_reducible exact und_u32) rfl ?_ | refine OW_add rfl rfl ?_ | refine OW_sub rfl rfl ?_ | refine OW_mul rfl rfl ?_ | refine OW_min2 rfl rfl ?_ | refine OW_max2 rfl rfl ?_ | refine OW_neg rfl ?_ | refine CW_block ?_ | refine CW_condT rfl ?_ | refine CW_condF rfl ?_ | refine CW_exit ?_ | refine CW_ret ?_ | refine CW_skip ?_ | refine LW_seq ?_ | refine LW_regC ?_ | refine LW_condC ?_ | refine LW_regF ?_ | refine LW_condF ?_ | refine FW_seq ?_ | refine FW_region (by kernel_rfl) ?_ | refine FW_block ?_ | refine FW_condT rfl ?_ | refine FW_condF rfl ?_ | refine FW_exit ?_ | refine FW_ret ?_ | refine FW_skip ?_ | refine LW_ret ?_ | refine LW_skip ?_ | refine thenE_exit ?_ | refine thenE_ret ?_ | refine inBlockE_normal ?_ | refine inBlockE_same ?_ | refine inBlockE_ret ?_ | refine inBlockE_ne (by rfl) ?_ | refine OW_eqlB (by with_reducible exact und_bool) rfl rfl ?_ | refine OW_neqB (by with_reducible exact und_bool) rfl rfl ?_ | refine OW_idxS (by with_reducible exact und_bytes) one_u8 rfl rfl _ rfl (by omega) ?_ | refine OW_idxS (by with_reducible exact und_bytess) one_bytes rfl rfl _ rfl (by omega) ?_ | refine OW_load1 (by first | with_reducible exact one_u8 | with_reducible exact one_bytes) rfl _ (by assumption) ?_ | refine OW_quo64 rfl rfl (by omega) ?_)
  exact hEnd.out) (k : B) : A := h ⟨k⟩
theorem oy_Sha4 {A B : Prop} (h : Held B → A := by
  intro hEnd
  repeat (first
    | refine OY_done ?_
    | (apply OY_p _ rfl
       · intro wd
         (first | refine OW_nilCheck rfl ?_ | refine OW_fieldB fldo_H0 rfl ?_ | refine OW_fieldB fldo_H1 rfl ?_ | refine OW_fieldB fldo_H2 rfl ?_ | refine OW_fieldB fldo_H3 rfl ?_ | refine OW_eqlNil und_pH rfl ?_ | (refine OW_isLoad ?_; refine OW_loadAtD agg_nums rfl (by apply_assumption; assumption) rfl ?_) | refine OW_moveV (.int _ _) rfl ?_ | refine OW_moveV (.slice _ _ _) rfl ?_ | refine OW_moveV (.bool _) rfl ?_ | refine OW_moveV (.pointer _) rfl ?_ | refine OW_moveV (.string _) rfl ?_ | refine OW_moveV (.agg _) rfl ?_ | refine OW_moveV (.tuple _) rfl ?_ | refine OW_nil ?_ | refine thenE_normal ?_ | refine CW_seq ?_ | refine CW_region (by kernel_rfl) ?_ | refine OW_assignV (.int _ _) rfl ?_ | refine OW_assignV (.slice _ _ _) rfl ?_ | refine OW_assignV (.bool _) rfl ?_ | refine OW_assignV (.pointer _) rfl ?_ | refine OW_assignV (.string _) rfl ?_ | refine OW_assignV (.agg _) rfl ?_ | refine OW_assignV (.tuple _) rfl ?_ | refine OW_addI rfl rfl (by omega) ?_ | refine OW_subI rfl rfl (by omega) ?_ | refine OW_mulI rfl rfl (by omega) ?_ | refine OW_lss rfl rfl ?_ | refine OW_extract rfl rfl ?_ | refine OW_gtr rfl rfl ?_ | refine OW_leq rfl rfl ?_ | refine OW_geq rfl rfl ?_ | refine OW_eql rfl rfl ?_ | refine OW_neq rfl rfl ?_ | refine OW_not rfl ?_ | refine OW_pickT rfl _ rfl ?_ | refine OW_pickF rfl (.bool _) rfl ?_ | refine OW_pickB rfl rfl rfl ?_ | refine OW_move ?_ | refine OW_assign ?_ | refine OW_pass rfl ?_ | refine OW_take rfl ?_ | refine OW_lenS (by first | with_reducible exact und_bytes | with_reducible exact und_bytess) rfl ?_ | refine OW_convInt (by first | with_reducible exact und_u8 | with_reducible exact und_u64 | with_reducible exact und_int | with_reducible exact und_u32) (by first | with_reducible exact und_u8 | with_reducible exact und_u64 | with_reducible exact und_int | with_reducible exact und_u32) rfl ?_ | refine OW_add rfl rfl ?_ | refine OW_sub rfl rfl ?_ | refine OW_mul rfl rfl ?_ | refine OW_min2 rfl rfl ?_ | refine OW_max2 rfl rfl ?_ | refine OW_neg rfl ?_ | refine CW_block ?_ | refine CW_condT rfl ?_ | refine CW_condF rfl ?_ | refine CW_exit ?_ | refine CW_ret ?_ | refine CW_skip ?_ | refine LW_seq ?_ | refine LW_regC ?_ | refine LW_condC ?_ | refine LW_regF ?_ | refine LW_condF ?_ | refine FW_seq ?_ | refine FW_region (by kernel_rfl) ?_ | refine FW_block ?_ | refine FW_condT rfl ?_ | refine FW_condF rfl ?_ | refine FW_exit ?_ | refine FW_ret ?_ | refine FW_skip ?_ | refine LW_ret ?_ | refine LW_skip ?_ | refine thenE_exit ?_ | refine thenE_ret ?_ | refine inBlockE_normal ?_ | refine inBlockE_same ?_ | refine inBlockE_ret ?_ | refine inBlockE_ne (by rfl) ?_ | refine OW_eqlB (by with_reducible exact und_bool) rfl rfl ?_ | refine OW_neqB (by with_reducible exact und_bool) rfl rfl ?_ | refine OW_idxS (by with_reducible exact und_bytes) one_u8 rfl rfl _ rfl (by omega) ?_ | refine OW_idxS (by with_reducible exact und_bytess) one_bytes rfl rfl _ rfl (by omega) ?_ | refine OW_load1 (by first | with_reducible exact one_u8 | with_reducible exact one_bytes) rfl _ (by assumption) ?_ | refine OW_quo64 rfl rfl (by omega) ?_)
         refine OW_nil ?_
         exact stay_mk _ _ _ _)
    | (apply OY_q _ rfl
       · intro wd hwd
         (first | refine OW_nilCheck rfl ?_ | refine OW_fieldB fldo_H0 rfl ?_ | refine OW_fieldB fldo_H1 rfl ?_ | refine OW_fieldB fldo_H2 rfl ?_ | refine OW_fieldB fldo_H3 rfl ?_ | refine OW_eqlNil und_pH rfl ?_ | (refine OW_isLoad ?_; refine OW_loadAtD agg_nums rfl (by apply_assumption; assumption) rfl ?_) | refine OW_moveV (.int _ _) rfl ?_ | refine OW_moveV (.slice _ _ _) rfl ?_ | refine OW_moveV (.bool _) rfl ?_ | refine OW_moveV (.pointer _) rfl ?_ | refine OW_moveV (.string _) rfl ?_ | refine OW_moveV (.agg _) rfl ?_ | refine OW_moveV (.tuple _) rfl ?_ | refine OW_nil ?_ | refine thenE_normal ?_ | refine CW_seq ?_ | refine CW_region (by kernel_rfl) ?_ | refine OW_assignV (.int _ _) rfl ?_ | refine OW_assignV (.slice _ _ _) rfl ?_ | refine OW_assignV (.bool _) rfl ?_ | refine OW_assignV (.pointer _) rfl ?_ | refine OW_assignV (.string _) rfl ?_ | refine OW_assignV (.agg _) rfl ?_ | refine OW_assignV (.tuple _) rfl ?_ | refine OW_addI rfl rfl (by omega) ?_ | refine OW_subI rfl rfl (by omega) ?_ | refine OW_mulI rfl rfl (by omega) ?_ | refine OW_lss rfl rfl ?_ | refine OW_extract rfl rfl ?_ | refine OW_gtr rfl rfl ?_ | refine OW_leq rfl rfl ?_ | refine OW_geq rfl rfl ?_ | refine OW_eql rfl rfl ?_ | refine OW_neq rfl rfl ?_ | refine OW_not rfl ?_ | refine OW_pickT rfl _ rfl ?_ | refine OW_pickF rfl (.bool _) rfl ?_ | refine OW_pickB rfl rfl rfl ?_ | refine OW_move ?_ | refine OW_assign ?_ | refine OW_pass rfl ?_ | refine OW_take rfl ?_ | refine OW_lenS (by first | with_reducible exact und_bytes | with_reducible exact und_bytess) rfl ?_ | refine OW_convInt (by first | with_reducible exact und_u8 | with_reducible exact und_u64 | with_reducible exact und_int | with_reducible exact und_u32) (by first | with_reducible exact und_u8 | with_reducible exact und_u64 | with_reducible exact und_int | with_reducible exact und_u32) rfl ?_ | refine OW_add rfl rfl ?_ | refine OW_sub rfl rfl ?_ | refine OW_mul rfl rfl ?_ | refine OW_min2 rfl rfl ?_ | refine OW_max2 rfl rfl ?_ | refine OW_neg rfl ?_ | refine CW_block ?_ | refine CW_condT rfl ?_ | refine CW_condF rfl ?_ | refine CW_exit ?_ | refine CW_ret ?_ | refine CW_skip ?_ | refine LW_seq ?_ | refine LW_regC ?_ | refine LW_condC ?_ | refine LW_regF ?_ | refine LW_condF ?_ | refine FW_seq ?_ | refine FW_region (by kernel_rfl) ?_ | refine FW_block ?_ | refine FW_condT rfl ?_ | refine FW_condF rfl ?_ | refine FW_exit ?_ | refine FW_ret ?_ | refine FW_skip ?_ | refine LW_ret ?_ | refine LW_skip ?_ | refine thenE_exit ?_ | refine thenE_ret ?_ | refine inBlockE_normal ?_ | refine inBlockE_same ?_ | refine inBlockE_ret ?_ | refine inBlockE_ne (by rfl) ?_ | refine OW_eqlB (by with_reducible exact und_bool) rfl rfl ?_ | refine OW_neqB (by with_reducible exact und_bool) rfl rfl ?_ | refine OW_idxS (by with_reducible exact und_bytes) one_u8 rfl rfl _ rfl (by omega) ?_ | refine OW_idxS (by with_reducible exact und_bytess) one_bytes rfl rfl _ rfl (by omega) ?_ | refine OW_load1 (by first | with_reducible exact one_u8 | with_reducible exact one_bytes) rfl _ (by assumption) ?_ | refine OW_quo64 rfl rfl (by omega) ?_ | (refine OW_isLoad ?_; refine OW_loadBk (by first | with_reducible exact one_u8 | with_reducible exact one_bytes | with_reducible exact one_bool | with_reducible exact one_int | with_reducible exact one_errno | with_reducible exact one_u32 | with_reducible exact one_u64 | with_reducible exact one_string | with_reducible exact s_hash | with_reducible exact s_int | with_reducible exact s_bool) rfl (by apply_assumption; assumption) _ (by first | assumption | rfl) ?_) | refine OW_load1 (by first | with_reducible exact one_u8 | with_reducible exact one_bytes | with_reducible exact one_bool | with_reducible exact one_int | with_reducible exact one_errno | with_reducible exact one_u32 | with_reducible exact one_u64 | with_reducible exact one_string | with_reducible exact s_hash | with_reducible exact s_int | with_reducible exact s_bool) rfl _ (by apply_assumption; assumption) ?_)
         refine OW_nil ?_
         exact stay_mk _ _ _ _)
    | refine OY_ppass rfl rfl ?_
    | refine OY_qpass rfl rfl ?_
    | (apply OY_ptake _ rfl rfl
       · intro wd
         (first | refine OW_nilCheck rfl ?_ | refine OW_fieldB fldo_H0 rfl ?_ | refine OW_fieldB fldo_H1 rfl ?_ | refine OW_fieldB fldo_H2 rfl ?_ | refine OW_fieldB fldo_H3 rfl ?_ | refine OW_eqlNil und_pH rfl ?_ | (refine OW_isLoad ?_; refine OW_loadAtD agg_nums rfl (by apply_assumption; assumption) rfl ?_) | refine OW_moveV (.int _ _) rfl ?_ | refine OW_moveV (.slice _ _ _) rfl ?_ | refine OW_moveV (.bool _) rfl ?_ | refine OW_moveV (.pointer _) rfl ?_ | refine OW_moveV (.string _) rfl ?_ | refine OW_moveV (.agg _) rfl ?_ | refine OW_moveV (.tuple _) rfl ?_ | refine OW_nil ?_ | refine thenE_normal ?_ | refine CW_seq ?_ | refine CW_region (by kernel_rfl) ?_ | refine OW_assignV (.int _ _) rfl ?_ | refine OW_assignV (.slice _ _ _) rfl ?_ | refine OW_assignV (.bool _) rfl ?_ | refine OW_assignV (.pointer _) rfl ?_ | refine OW_assignV (.string _) rfl ?_ | refine OW_assignV (.agg _) rfl ?_ | refine OW_assignV (.tuple _) rfl ?_ | refine OW_addI rfl rfl (by omega) ?_ | refine OW_subI rfl rfl (by omega) ?_ | refine OW_mulI rfl rfl (by omega) ?_ | refine OW_lss rfl rfl ?_ | refine OW_extract rfl rfl ?_ | refine OW_gtr rfl rfl ?_ | refine OW_leq rfl rfl ?_ | refine OW_geq rfl rfl ?_ | refine OW_eql rfl rfl ?_ | refine OW_neq rfl rfl ?_ | refine OW_not rfl ?_ | refine OW_pickT rfl _ rfl ?_ | refine OW_pickF rfl (.bool _) rfl ?_ | refine OW_pickB rfl rfl rfl ?_ | refine OW_move ?_ | refine OW_assign ?_ | refine OW_pass rfl ?_ | refine OW_take rfl ?_ | refine OW_lenS (by first | with_reducible exact und_bytes | with_reducible exact und_bytess) rfl ?_ | refine OW_convInt (by first | with_reducible exact und_u8 | with_reducible exact und_u64 | with_reducible exact und_int | with_reducible exact und_u32) (by first | with_reducible exact und_u8 | with_reducible exact und_u64 | with_reducible exact und_int | with_reducible exact und_u32) rfl ?_ | refine OW_add rfl rfl ?_ | refine OW_sub rfl rfl ?_ | refine OW_mul rfl rfl ?_ | refine OW_min2 rfl rfl ?_ | refine OW_max2 rfl rfl ?_ | refine OW_neg rfl ?_ | refine CW_block ?_ | refine CW_condT rfl ?_ | refine CW_condF rfl ?_ | refine CW_exit ?_ | refine CW_ret ?_ | refine CW_skip ?_ | refine LW_seq ?_ | refine LW_regC ?_ | refine LW_condC ?_ | refine LW_regF ?_ | refine LW_condF ?_ | refine FW_seq ?_ | refine FW_region (by kernel_rfl) ?_ | refine FW_block ?_ | refine FW_condT rfl ?_ | refine FW_condF rfl ?_ | refine FW_exit ?_ | refine FW_ret ?_ | refine FW_skip ?_ | refine LW_ret ?_ | refine LW_skip ?_ | refine thenE_exit ?_ | refine thenE_ret ?_ | refine inBlockE_normal ?_ | refine inBlockE_same ?_ | refine inBlockE_ret ?_ | refine inBlockE_ne (by rfl) ?_ | refine OW_eqlB (by with_reducible exact und_bool) rfl rfl ?_ | refine OW_neqB (by with_reducible exact und_bool) rfl rfl ?_ | refine OW_idxS (by with_reducible exact und_bytes) one_u8 rfl rfl _ rfl (by omega) ?_ | refine OW_idxS (by with_reducible exact und_bytess) one_bytes rfl rfl _ rfl (by omega) ?_ | refine OW_load1 (by first | with_reducible exact one_u8 | with_reducible exact one_bytes) rfl _ (by assumption) ?_ | refine OW_quo64 rfl rfl (by omega) ?_)
         refine OW_nil ?_
         exact stay_mk _ _ _ _)
    | (apply OY_qtake _ rfl rfl
       · intro wd hwd
         (first | refine OW_nilCheck rfl ?_ | refine OW_fieldB fldo_H0 rfl ?_ | refine OW_fieldB fldo_H1 rfl ?_ | refine OW_fieldB fldo_H2 rfl ?_ | refine OW_fieldB fldo_H3 rfl ?_ | refine OW_eqlNil und_pH rfl ?_ | (refine OW_isLoad ?_; refine OW_loadAtD agg_nums rfl (by apply_assumption; assumption) rfl ?_) | refine OW_moveV (.int _ _) rfl ?_ | refine OW_moveV (.slice _ _ _) rfl ?_ | refine OW_moveV (.bool _) rfl ?_ | refine OW_moveV (.pointer _) rfl ?_ | refine OW_moveV (.string _) rfl ?_ | refine OW_moveV (.agg _) rfl ?_ | refine OW_moveV (.tuple _) rfl ?_ | refine OW_nil ?_ | refine thenE_normal ?_ | refine CW_seq ?_ | refine CW_region (by kernel_rfl) ?_ | refine OW_assignV (.int _ _) rfl ?_ | refine OW_assignV (.slice _ _ _) rfl ?_ | refine OW_assignV (.bool _) rfl ?_ | refine OW_assignV (.pointer _) rfl ?_ | refine OW_assignV (.string _) rfl ?_ | refine OW_assignV (.agg _) rfl ?_ | refine OW_assignV (.tuple _) rfl ?_ | refine OW_addI rfl rfl (by omega) ?_ | refine OW_subI rfl rfl (by omega) ?_ | refine OW_mulI rfl rfl (by omega) ?_ | refine OW_lss rfl rfl ?_ | refine OW_extract rfl rfl ?_ | refine OW_gtr rfl rfl ?_ | refine OW_leq rfl rfl ?_ | refine OW_geq rfl rfl ?_ | refine OW_eql rfl rfl ?_ | refine OW_neq rfl rfl ?_ | refine OW_not rfl ?_ | refine OW_pickT rfl _ rfl ?_ | refine OW_pickF rfl (.bool _) rfl ?_ | refine OW_pickB rfl rfl rfl ?_ | refine OW_move ?_ | refine OW_assign ?_ | refine OW_pass rfl ?_ | refine OW_take rfl ?_ | refine OW_lenS (by first | with_reducible exact und_bytes | with_reducible exact und_bytess) rfl ?_ | refine OW_convInt (by first | with_reducible exact und_u8 | with_reducible exact und_u64 | with_reducible exact und_int | with_reducible exact und_u32) (by first | with_reducible exact und_u8 | with_reducible exact und_u64 | with_reducible exact und_int | with_reducible exact und_u32) rfl ?_ | refine OW_add rfl rfl ?_ | refine OW_sub rfl rfl ?_ | refine OW_mul rfl rfl ?_ | refine OW_min2 rfl rfl ?_ | refine OW_max2 rfl rfl ?_ | refine OW_neg rfl ?_ | refine CW_block ?_ | refine CW_condT rfl ?_ | refine CW_condF rfl ?_ | refine CW_exit ?_ | refine CW_ret ?_ | refine CW_skip ?_ | refine LW_seq ?_ | refine LW_regC ?_ | refine LW_condC ?_ | refine LW_regF ?_ | refine LW_condF ?_ | refine FW_seq ?_ | refine FW_region (by kernel_rfl) ?_ | refine FW_block ?_ | refine FW_condT rfl ?_ | refine FW_condF rfl ?_ | refine FW_exit ?_ | refine FW_ret ?_ | refine FW_skip ?_ | refine LW_ret ?_ | refine LW_skip ?_ | refine thenE_exit ?_ | refine thenE_ret ?_ | refine inBlockE_normal ?_ | refine inBlockE_same ?_ | refine inBlockE_ret ?_ | refine inBlockE_ne (by rfl) ?_ | refine OW_eqlB (by with_reducible exact und_bool) rfl rfl ?_ | refine OW_neqB (by with_reducible exact und_bool) rfl rfl ?_ | refine OW_idxS (by with_reducible exact und_bytes) one_u8 rfl rfl _ rfl (by omega) ?_ | refine OW_idxS (by with_reducible exact und_bytess) one_bytes rfl rfl _ rfl (by omega) ?_ | refine OW_load1 (by first | with_reducible exact one_u8 | with_reducible exact one_bytes) rfl _ (by assumption) ?_ | refine OW_quo64 rfl rfl (by omega) ?_ | (refine OW_isLoad ?_; refine OW_loadBk (by first | with_reducible exact one_u8 | with_reducible exact one_bytes | with_reducible exact one_bool | with_reducible exact one_int | with_reducible exact one_errno | with_reducible exact one_u32 | with_reducible exact one_u64 | with_reducible exact one_string | with_reducible exact s_hash | with_reducible exact s_int | with_reducible exact s_bool) rfl (by apply_assumption; assumption) _ (by first | assumption | rfl) ?_) | refine OW_load1 (by first | with_reducible exact one_u8 | with_reducible exact one_bytes | with_reducible exact one_bool | with_reducible exact one_int | with_reducible exact one_errno | with_reducible exact one_u32 | with_reducible exact one_u64 | with_reducible exact one_string | with_reducible exact s_hash | with_reducible exact s_int | with_reducible exact s_bool) rfl _ (by apply_assumption; assumption) ?_)
         refine OW_nil ?_
         exact stay_mk _ _ _ _)
    | refine OY_a (actY_of rfl ?_)
    | refine OY_d (actY_of rfl ?_)
    | refine OY_a (actY_pass rfl rfl ?_)
    | refine OY_d (actY_pass rfl rfl ?_)
    | refine OY_a (actY_take rfl rfl ?_)
    | refine OY_d (actY_take rfl rfl ?_))
  exact hEnd.out) (k : B) : A := h ⟨k⟩
section
variable {P : Program} {ops : Array Oper} {Q : Exit → (Nat → Value) → World → Prop} {rest : List Oper} {e : Nat → Value} {w : World} {d : Tmp} {ty : TypeId} {pos : String} {aft : Array Edge}
theorem OW_quo64 {x y : Operand} {t t' : TypeId} {n : Nat} (hx : ev e x = .int .i64 (n : Int)) (hy : ev e y = .int .i64 64) (hh : n < 9223372036854775808) (h : OW P ops Q rest (upd e d (.int .i64 ((n / 64 : Nat) : Int))) w) : OW P ops Q (⟨some d, .binOp .quo t x y t', ty, pos, aft, none⟩ :: rest) e w := by
  refine OW_quo hx hy (by omega) ?_
  rw [show ((n : Int)).tdiv 64 = ((n / 64 : Nat) : Int) from rfl, wrap64_in (by omega)]
  exact h
theorem OW_sliceLo {x lo : Operand} {t el : TypeId} {A : Option Addr} {n c : Nat} {k : IntKind} {lv : Int} (ht : P.underlying t = some (.slice el)) (hel : OneT P el) (hx : ev e x = .slice A n c) (hlo : ev e lo = .int k lv) (lN : Nat) (hl : lv = (lN : Int)) (hb : lN ≤ n) (hc : n ≤ c)
    (h : OW P ops Q rest (upd e d (.slice (cutA A c lN) (n - lN) (c - lN))) w) : OW P ops Q (⟨some d, .slice t x (some lo) none none, ty, pos, aft, none⟩ :: rest) e w := by
  subst hl
  exact OW_slice (mx := none) (mv := c) (hv := n) ht hel hx ⟨k, hlo⟩ rfl rfl (fun h => by cases h) (by omega) (by simpa using h)
theorem OW_loadAtD {x : Operand} {t T : TypeId} {n g o : Nat} {zs : List Value} {all : Array Value} (ht : AggT P t n zs) (hx : ev e x = .pointer (some ⟨g, o, none⟩)) (hb : Blk w g T all) (hl : ((all.toList.drop o).take n).length = n)
    (h : OW P ops Q rest (upd e d (.agg ((all.toList.drop o).take n).toArray)) w) : OW P ops Q (⟨some d, .load t x, ty, pos, aft, none⟩ :: rest) e w :=
  OW_loadAt ht hx hb _ hl rfl h
end
theorem LW_forget {P : Program} {fn : Func} {R : Ending → World → Prop} {ds : List Deferred} {cs : List Code} {e : Nat → Value} {w : World} (ts : List Nat) (h : ∀ e', (∀ i ∈ ts, e' i = e i) → LW P fn R ds cs e' w) : LW P fn R ds cs e w := h e fun _ _ => rfl
theorem keeps_loop {a b c : World} {S T : Nat → Prop} (h : Keeps a b S) (k : Keeps b c (fun k => T k ∨ k = a.heap.size ∨ k = a.heap.size + 1)) (hT : ∀ k, T k → S k) : Keeps a c S :=
  ⟨k.os.trans h.os, k.tape.trans h.tape, k.output.trans h.output, Nat.le_trans h.size k.size, fun i hi hn => by
    rw [k.block i (Nat.lt_of_lt_of_le hi h.size) (fun hh => by rcases hh with hh | hh | hh; exact hn (hT i hh); omega; omega)]
    exact h.block i hi hn⟩
/-- The whole blocks, and what is left. -/
theorem write_n (l b : List UInt8) : runB (allB iv8 l) (restB l ++ b) ((restB l ++ b).length / 64) = allB iv8 (l ++ b) := (allB_app iv8 l b).1.symm
theorem write_rest (l b : List UInt8) : (restB l ++ b).drop ((restB l ++ b).length / 64 * 64) = restB (l ++ b) := by
  rw [(allB_app iv8 l b).2]
  unfold restB
  rw [Nat.mul_comm]
set_option maxHeartbeats 8000000 in
theorem hwrite_any (w : World) (g : Nat) (S : Nat → Prop) (l : List UInt8) (h : HR w g S l) (A : Option Addr) (c : Nat) (b : List UInt8) (hb : Bs w A b) (hl : l.length + b.length ≤ 1000000) :
    Calls Try.prog 16 #[.pointer (some ⟨g, 0, none⟩), .slice A b.length c] w (fun en w' => en = .returned (.int .i64 0) ∧ HR w' g (more S w w') (l ++ b) ∧ Keeps w w' S) := by
  obtain ⟨A0, c0, hB0, hr0, hc0, hA0⟩ := h.at_
  have hrl := restB_length l
  refine calls_of_LW Try.func16 rfl (by simp [Try.ntmps16]) ?_
  refine go_Sha4 (k := ?_)
  refine OW_box _ rfl ?_
  intro w1 g2 hb2 hg2 hl2 hx1
  have hb2 : Blk w1 g2 24 #[.pointer (some ⟨g, 0, none⟩)] := hb2
  refine go_Sha4 (k := ?_)
  refine OW_isLoad ?_
  refine OW_loadBk s_hash rfl hb2 (.pointer (some ⟨g, 0, none⟩)) rfl ?_
  refine go_Sha4 (k := ?_)
  refine OW_callV Try.func62 (by kernel_rfl) rfl (none_any w1 g _ _ _ _ _ (hB0.ext hx1)) rfl ?_
  intro w2 hx2
  refine go_Sha4 (k := ?_)
  refine OW_isLoad ?_
  refine OW_loadBk s_hash rfl (hb2.ext hx2) (.pointer (some ⟨g, 0, none⟩)) rfl ?_
  refine go_Sha4 (k := ?_)
  refine OW_isLoad ?_
  refine OW_loadBk one_bytes rfl ((hB0.ext hx1).ext hx2) (.slice A0 (restB l).length c0) rfl ?_
  refine go_Sha4 (k := ?_)
  refine OW_lit [.slice A0 (restB l).length c0, .slice A b.length c] und_bytess info_bytes rfl rfl (by simp [Value.oneCell']) (by decide) ?_
  intro w3 g3 hb3 hg3 hx3
  have hx13 : Ext w w3 := (hx1.trans' hx2).trans' hx3
  have hcat := cat_any w3 (some ⟨g3, 0, none⟩) 2 [(A0, c0, restB l), (A, c, b)] hb3.rd (fun x hx => by
    simp only [List.mem_cons, List.not_mem_nil, or_false] at hx
    rcases hx with rfl | rfl
    · exact hr0.ext hx13
    · exact hb.ext hx13) (by simp) (by simp [flat]; omega)
  rw [show flat [(A0, c0, restB l), (A, c, b)] = restB l ++ b by simp [flat]] at hcat
  refine go_Sha4 (k := ?_)
  refine OW_callBs Try.func20 (by kernel_rfl) rfl hcat rfl ?_
  intro w4 A4 c4 hf4
  have hL : (restB l ++ b).length ≤ 1000000 := by rw [List.length_append]; omega
  have hdrop := write_rest l b
  have hrun := write_n l b
  obtain ⟨L, hLe⟩ : ∃ L, restB l ++ b = L := ⟨_, rfl⟩
  rw [hLe] at hf4 hL hdrop hrun ⊢
  refine go_Sha4 (k := ?_)
  refine OW_callC Try.func63 (by kernel_rfl) rfl (blocks_any w4 A4 L.length c4) rfl ?_
  rintro en w5 ⟨gB, rfl, hbB, hgB, hx5⟩
  refine ⟨_, rfl, ?_⟩
  refine go_Sha4 (k := ?_)
  have hcap := own_cap hf4.own
  have hbk := own_block hf4.own
  have hA4 : ∀ ad, A4 = some ad → ad.block ≠ gB := fun ad ha => by have := (hbk ad ha).2; omega
  have hbs4 : Bs w5 A4 L := hf4.bs.ext hx5
  have hx34 := hf4.ext
  have hx15 : Ext w1 w5 := ((hx2.trans' hx3).trans' hx34).trans' hx5
  have hx05 : Ext w w5 := hx1.trans' hx15
  have hB5 := hB0.ext hx05
  have hb5 := hb2.ext hx15
  have s0 := hx1.size
  have s5 := hx05.size
  have s15 := hx15.size
  have s4 := (hx13.trans' hx34).size
  have s13 := hx13.size
  have s45 := hx5.size
  have s14 := ((hx2.trans' hx3).trans' hx34).size
  have lg := hB0.lt
  have l5 := hB5.lt
  have lB := hbB.lt
  refine LW_forget [1, 2, 5, 17] ?_
  intro e5 h5
  have q1 : e5 1 = .slice A b.length c := h5 1 (by decide)
  have q2 : e5 2 = .pointer (some ⟨g2, 0, none⟩) := h5 2 (by decide)
  have q5 : e5 5 = .slice A4 L.length c4 := h5 5 (by decide)
  have q17 : e5 17 = .func (.func 95) #[] #[.pointer (some ⟨gB, 0, none⟩)] := h5 17 (by decide)
  clear h5
  rw [upd_self q1, upd_self q2, upd_self q5, upd_self q17]
  obtain ⟨s, hs⟩ : ∃ s, allB iv8 l = s := ⟨_, rfl⟩
  rw [hs] at hB5 hrun
  have hN : ∀ k, nB L gB A4 k → k = gB ∨ w3.heap.size ≤ k := fun k hk => by
    rcases hk with h | ⟨_, ad, ha, rfl⟩
    · exact .inl h
    · exact .inr (hbk ad ha).1
  refine LW_range (ps := [18]) (blocks_iter L gB A4 c4) Try.func95 (by kernel_rfl) rfl rfl (fun x => rfl) (by decide) (fun k hk => by omega) (fun k hk => ?_) (fun W hW => ⟨hbB.ext hW, hbs4.ext hW, hcap.1, hA4⟩)
    (fun xs W => Blk W g 97 (hcells (runB s L xs.length) A0 (restB l).length c0 l.length).toArray ∧ Keeps w5 W (fun k => k = g ∨ k = gB)) (fun _ _ _ => False) ?_ (fun _ _ _ _ h _ => h) ⟨hB5, Keeps.rfl' _ _⟩
    (fun x => upd (upd (upd (upd (upd (upd e5 17 (.func (.func 95) #[] #[.pointer (some ⟨gB, 0, none⟩)])) 5 (.slice A4 L.length c4)) 2 (.pointer (some ⟨g2, 0, none⟩))) 1 (.slice A b.length c)) 18 (sv x)) 6 (sv x)) ?_ ?_ ?_ (fun c pre W _ h _ => h.elim)
  · rcases hk with h | ⟨_, ad, ha, rfl⟩
    · omega
    · have := (hbk ad ha).2; omega
  · rintro xs W1 W2 ⟨h1, h2⟩ hk
    refine ⟨h1.keeps hk (by rintro (h | h | h) <;> omega), keeps_loop h2 hk (fun k h => .inr h)⟩
  · intro x l2 W
    unfold binds binds
    refine go_Sha4 (k := ?_)
    exact ⟨rfl, rfl, rfl⟩
  · rintro l2 pre ⟨Ax, cx, lx⟩ W ⟨h1, h2⟩ ⟨k1, k2, k3, k4, k5⟩
    have k2 : lx = chunk L pre.length := k2
    have k4 : lx.length ≤ cx := by have := chunk_length k3; rw [k2, this]; exact k4
    have hlx : lx.length = 64 := by rw [k2]; exact chunk_length k3
    have hbW := hb5.keeps h2 (by rintro (h | h) <;> omega)
    have hsx : sv (Ax, cx, lx) = .slice Ax lx.length cx := rfl
    rw [hsx]
    have hrn : runB s L (pre.length + 1) = blk (runB s L pre.length) lx := by rw [k2]; rfl
    obtain ⟨s2, hs2⟩ : ∃ s2, runB s L pre.length = s2 := ⟨_, rfl⟩
    rw [hs2] at h1 hrn
    refine go_Sha4 (k := ?_)
    obtain ⟨C, hC⟩ : ∃ C : World → Prop, C = fun v => Ext W v := ⟨_, rfl⟩
    have y2 : ∀ v, C v → Blk v g2 24 #[.pointer (some ⟨g, 0, none⟩)] := fun v hv => by rw [hC] at hv; exact hbW.ext hv
    have yg : ∀ v, C v → Blk v g 97 (hcells s2 A0 (restB l).length c0 l.length).toArray := fun v hv => by rw [hC] at hv; exact h1.ext hv
    refine FW_tree2 [0, 1, 4] (.q 0 (.q 1 (.p 2 (.p 3 (.q 4 (.p 5 (.a 6 (.p 7 (.p 8 (.d 9 .done)))))))))) (C) (by kernel_rfl) (by kernel_rfl) (by kernel_rfl) ?_ ?_
    · exact fun v hv => by rw [hC]; exact hv
    intro w6 hx6 hC6
    refine oy_Sha4 (k := ?_)
    refine OW_callV Try.func64 (by kernel_rfl) rfl (block_any w6 s2 Ax cx lx ((k1.ext hx6)) k4 hlx) rfl ?_
    intro w7 hx7
    have hC7 : C w7 := by rw [hC] at hC6 ⊢; exact hC6.trans' hx7
    refine OW_nil (goY_mk hC7 ?_)
    refine oy_Sha4 (k := ?_)
    refine OW_storeAt agg_nums rfl (blk s2 lx).cells rfl rfl (yg _ hC7) (Nat.le_of_lt_succ (by show 9 < 12; omega)) (uv_one _) ?_
    intro w8 hB8 hgr
    refine OW_nil (goY_done ?_)
    refine go_Sha4 (k := ?_)
    rw [hC] at hC7
    have s7 := hC7.size
    have s8 := h2.size
    have hk8 : Keeps W w8 (· = g) := (Keeps.of_ext hC7 _).trans' (Keeps.of_only hgr rfl)
    refine ⟨hk8.mono fun k _ hk => ?_, ?_, h2.trans' (hk8.mono fun k _ hk => .inl hk)⟩
    · subst hk
      refine ⟨fun hn => ?_, by omega, by omega⟩
      rcases hN _ hn with h | h <;> omega
    · rw [List.length_append]
      show Blk w8 g 97 (hcells (runB s L (pre.length + 1)) A0 (restB l).length c0 l.length).toArray
      rw [hrn]
      exact hB8
  · rintro xs W hS ⟨h1, h2⟩ hD
    have hS : xs.length = L.length / 64 := hS
    rw [hS, hrun] at h1
    have hbW := hb5.keeps h2 (by rintro (h | h) <;> omega)
    have hsW := h2.size
    have hbsW : Bs W A4 L := hbs4.keeps h2 (fun ad ha => by have := hbk ad ha; rintro (h | h) <;> omega)
    refine go_Sha4 (k := ?_)
    obtain ⟨C, hC⟩ : ∃ C : World → Prop, C = fun v => Ext W v := ⟨_, rfl⟩
    have y2 : ∀ v, C v → Blk v g2 24 #[.pointer (some ⟨g, 0, none⟩)] := fun v hv => by rw [hC] at hv; exact hbW.ext hv
    have yg : ∀ v, C v → Blk v g 97 (hcells (allB iv8 (l ++ b)) A0 (restB l).length c0 l.length).toArray := fun v hv => by rw [hC] at hv; exact h1.ext hv
    refine FW_tree2 [0] (.q 0 (.p 1 (.p 2 (.p 3 (.p 4 (.p 5 (.p 6 (.p 7 (.p 8 (.d 9 .done)))))))))) (C) (by kernel_rfl) (by kernel_rfl) (by kernel_rfl) ?_ ?_
    · exact fun v hv => by rw [hC]; exact hv
    intro w6 hx6 hC6
    refine oy_Sha4 (k := ?_)
    apply OY_p _ rfl
    · intro wd
      refine OW_sliceLo und_bytes one_u8 rfl rfl (L.length / 64 * 64) (by omega) (by omega) hcap.1 ?_
      refine OW_nil ?_
      exact stay_mk _ _ _ _
    refine oy_Sha4 (k := ?_)
    refine OW_storeB one_bytes rfl (.slice (cutA A4 c4 (L.length / 64 * 64)) (L.length - L.length / 64 * 64) (c4 - L.length / 64 * 64)) rfl rfl (yg _ hC6) (by show 9 < 11; omega) ?_
    intro w7 hB7 hgr
    rw [hC] at hC6
    clear y2 yg
    have hk7 : Keeps W w7 (· = g) := (Keeps.of_ext hC6 _).trans' (Keeps.of_only hgr rfl)
    replace hB7 : Blk w7 g 97 (hcells (allB iv8 (l ++ b)) (cutA A4 c4 (L.length / 64 * 64)) (L.length - L.length / 64 * 64) (c4 - L.length / 64 * 64) l.length).toArray := hB7
    have hb7 := hbW.keeps hk7 (by omega)
    refine OW_nil (goY_done ?_)
    refine go_Sha4 (k := ?_)
    refine OW_isLoad ?_
    refine OW_loadBk s_hash rfl hb7 (.pointer (some ⟨g, 0, none⟩)) rfl ?_
    refine go_Sha4 (k := ?_)
    refine OW_isLoad ?_
    refine OW_loadBk s_int rfl hB7 (.int .i64 l.length) rfl ?_
    refine go_Sha4 (k := ?_)
    refine OW_storeB s_int rfl (.int .i64 ((l.length : Int) + b.length)) rfl rfl hB7 (by show 10 < 11; omega) ?_
    intro w8 hB8 hgr8
    have hk8 : Keeps w7 w8 (· = g) := Keeps.of_only hgr8 rfl
    have hr : L.drop (L.length / 64 * 64) = restB (l ++ b) := hdrop
    have hrl2 : L.length - L.length / 64 * 64 = (restB (l ++ b)).length := by rw [← hr, List.length_drop]
    rw [hrl2] at hB7 hB8
    replace hB8 : Blk w8 g 97 (hcells (allB iv8 (l ++ b)) (cutA A4 c4 (L.length / 64 * 64)) (restB (l ++ b)).length (c4 - L.length / 64 * 64) (l ++ b).length).toArray := by
      rw [List.length_append]
      unfold hcells
      rw [Int.natCast_add]
      exact hB8
    have hk08 := (h2.trans' ((hk7.trans' hk8).mono fun k _ hk => .inl hk))
    have s8 := hk08.size
    have sW8 := (hk7.trans' hk8).size
    have hD8 : w8.heap[w5.heap.size]? = some (.deferred (some [])) := by
      rw [(hk7.trans' hk8).block _ (Array.getElem?_eq_some_iff.1 hD).1 (by omega)]; exact hD
    refine go_Sha4 (k := ?_)
    refine leaveM_ret1 rfl (.int .i64 0) rfl hD8 ?_
    have hkD : Keeps w8 (w8.putObj w5.heap.size (.deferred none)) (· = w5.heap.size) := Keeps.put _ _ _
    have hk09 := keeps_loop (T := fun _ => False) hk08 (hkD.mono fun k _ hk => .inr (.inl hk)) (fun k hk => hk.elim)
    have s9 := hkD.size
    have hbs9 : Bs (w8.putObj w5.heap.size (.deferred none)) A4 L := hbs4.keeps hk09 (fun ad ha => by have := hbk ad ha; rintro (h | h) <;> omega)
    have hbr := hbs9.cut c4 (L.length / 64 * 64) (L.length - L.length / 64 * 64) (by omega)
    rw [List.take_of_length_le (by rw [List.length_drop]; omega), hr] at hbr
    refine ⟨rfl, ⟨.inl h.in_, ⟨_, _, hB8.keeps hkD (by omega), hbr, by omega, fun ad ha => ?_⟩, fun k hk => ?_⟩, ?_⟩
    · obtain ⟨a0, h3, h4⟩ := cutA_block ha
      have := hbk a0 h3
      exact ⟨.inr ⟨by omega, by omega⟩, by omega⟩
    · rcases hk with hk | hk
      · have := h.bd k hk; omega
      · exact hk.2
    · have hk59 : Keeps w5 _ (fun k => k = g ∨ k = gB) := hk09
      exact ⟨hk59.os.trans hx05.os, hk59.tape.trans hx05.tape, hk59.output.trans hx05.output, by omega, fun i hi hn => by
        rw [hk59.block i (by omega) (by rintro (hh | hh); exact hn (hh ▸ h.in_); omega)]
        exact hx05.block i hi⟩
end Go.Proofs.Ytdpcahfgdpikfaa
