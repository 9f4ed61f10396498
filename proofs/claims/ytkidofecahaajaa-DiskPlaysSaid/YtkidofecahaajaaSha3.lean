/- Walks: a Hash that was made: New, none, Len, blocks. -/
import Derived.Test.YtkidofecahaajaaShaI
import Derived.Test.YtkidofecahaajaaAgg
namespace Go.Proofs.Ytkidofecahaajaa
open Go Go.RowKit
set_option linter.unusedVariables false
set_option maxRecDepth 4000
theorem go_Sha3 {A B : Prop} (h : Held B → A := by
  intro hEnd
  repeat (first | refine OW_nilCheck rfl ?_ | refine OW_fieldB fldo_H0 rfl ?_ | refine OW_fieldB fldo_H1 rfl ?_ | refine OW_fieldB fldo_H2 rfl ?_ | refine OW_fieldB fldo_H3 rfl ?_ | refine OW_eqlNil und_pH rfl ?_ | refine OW_moveV (.int _ _) rfl ?_ | refine OW_moveV (.slice _ _ _) rfl ?_ | refine OW_moveV (.bool _) rfl ?_ | refine OW_moveV (.pointer _) rfl ?_ | refine OW_moveV (.string _) rfl ?_ | refine OW_moveV (.agg _) rfl ?_ | refine OW_moveV (.tuple _) rfl ?_ | refine OW_nil ?_ | refine thenE_normal ?_ | refine CW_seq ?_ | refine CW_region (by kernel_rfl) ?_ | refine OW_assignV (.int _ _) rfl ?_ | refine OW_assignV (.slice _ _ _) rfl ?_ | refine OW_assignV (.bool _) rfl ?_ | refine OW_assignV (.pointer _) rfl ?_ | refine OW_assignV (.string _) rfl ?_ | refine OW_assignV (.agg _) rfl ?_ | refine OW_assignV (.tuple _) rfl ?_ | refine OW_addI rfl rfl (by omega) ?_ | refine OW_subI rfl rfl (by omega) ?_ | refine OW_mulI rfl rfl (by omega) ?_ | refine OW_lss rfl rfl ?_ | refine OW_extract rfl rfl ?_ | refine OW_gtr rfl rfl ?_ | refine OW_leq rfl rfl ?_ | refine OW_geq rfl rfl ?_ | refine OW_eql rfl rfl ?_ | refine OW_neq rfl rfl ?_ | refine OW_not rfl ?_ | refine OW_pickT rfl _ rfl ?_ | refine OW_pickF rfl (.bool _) rfl ?_ | refine OW_pickB rfl rfl rfl ?_ | refine OW_move ?_ | refine OW_assign ?_ | refine OW_pass rfl ?_ | refine OW_take rfl ?_ | refine OW_lenS (by first | with_reducible exact und_bytes | with_reducible exact und_bytess) rfl ?_ | refine OW_convInt (by first | with_reducible exact und_u8 | with_reducible exact und_u64 | with_reducible exact und_int | with_reducible exact und_u32) (by first | with_reducible exact und_u8 | with_reducible exact und_u64 | with_reducible exact und_int | with_reducible exact und_u32) rfl ?_ | refine OW_add rfl rfl ?_ | refine OW_sub rfl rfl ?_ | refine OW_mul rfl rfl ?_ | refine OW_min2 rfl rfl ?_ | refine OW_max2 rfl rfl ?_ | refine OW_neg rfl ?_ | refine CW_block ?_ | refine CW_condT rfl ?_ | refine CW_condF rfl ?_ | refine CW_exit ?_ | refine CW_ret ?_ | refine CW_skip ?_ | refine LW_seq ?_ | refine LW_regC ?_ | refine LW_condC ?_ | refine LW_regF ?_ | refine LW_condF ?_ | refine FW_seq ?_ | refine FW_region (by kernel_rfl) ?_ | refine FW_block ?_ | refine FW_condT rfl ?_ | refine FW_condF rfl ?_ | refine FW_exit ?_ | refine FW_ret ?_ | refine FW_skip ?_ | refine LW_ret ?_ | refine LW_skip ?_ | refine thenE_exit ?_ | refine thenE_ret ?_ | refine inBlockE_normal ?_ | refine inBlockE_same ?_ | refine inBlockE_ret ?_ | refine inBlockE_ne (by rfl) ?_ | refine OW_eqlB (by with_reducible exact und_bool) rfl rfl ?_ | refine OW_neqB (by with_reducible exact und_bool) rfl rfl ?_ | refine OW_idxS (by with_reducible exact und_bytes) one_u8 rfl rfl _ rfl (by omega) ?_ | refine OW_idxS (by with_reducible exact und_bytess) one_bytes rfl rfl _ rfl (by omega) ?_ | refine OW_load1 (by first | with_reducible exact one_u8 | with_reducible exact one_bytes) rfl _ (by assumption) ?_)
  exact hEnd.out) (k : B) : A := h ⟨k⟩
section
variable {P : Program} {ops : Array Oper} {Q : Exit → (Nat → Value) → World → Prop} {rest : List Oper} {e : Nat → Value} {w : World} {d : Tmp} {ty : TypeId} {pos : String} {aft : Array Edge}
theorem OW_fieldB {x : Operand} {t : TypeId} {g f o : Nat} (hr : FldO P t f o) (hx : ev e x = .pointer (some ⟨g, 0, none⟩))
    (h : OW P ops Q rest (upd e d (.pointer (some ⟨g, o, none⟩))) w) : OW P ops Q (⟨some d, .fieldAddr t x f, ty, pos, aft, none⟩ :: rest) e w :=
  OW_fieldO hr hx (by rw [addr0]; exact h)
end
theorem und_pH : Try.prog.underlying 112 = some (.pointer 124) := Try.underlying112
theorem fldo_H0 : FldO Try.prog 124 0 0 := ⟨fun w a => by kernel_rfl⟩
theorem fldo_H1 : FldO Try.prog 124 1 1 := ⟨fun w a => by kernel_rfl⟩
theorem fldo_H2 : FldO Try.prog 124 2 9 := ⟨fun w a => by kernel_rfl⟩
theorem fldo_H3 : FldO Try.prog 124 3 10 := ⟨fun w a => by kernel_rfl⟩
/-- A hash's cells. -/
def hcells (s : N8) (A : Option Addr) (n c k : Nat) : List Value := .bool true :: (s.cells ++ [.slice A n c, .int .i64 k])
theorem bld_H : ∀ w, (Instr.build 124 [(0, .bool true), (1, .agg iv8.cells.toArray)].toArray).run Try.prog w = .ok (.agg (hcells iv8 none 0 0 0).toArray) w := fun w => by kernel_rfl
/-- A hash that was made, at block g, of the bytes l; its blocks lie in S. -/
structure HR (w : World) (g : Nat) (S : Nat → Prop) (l : List UInt8) : Prop where
  in_ : S g
  at_ : ∃ A c, Blk w g 124 (hcells (allB iv8 l) A (restB l).length c l.length).toArray ∧ Bs w A (restB l) ∧ (restB l).length ≤ c ∧ ∀ ad, A = some ad → S ad.block ∧ ad.block ≠ g
  bd : ∀ k, S k → k < w.heap.size
theorem HR.keeps {w w' : World} {g : Nat} {S X : Nat → Prop} {l : List UInt8} (h : HR w g S l) (hk : Keeps w w' X) (hn : ∀ k, S k → ¬ X k) : HR w' g S l := by
  obtain ⟨A, c, h1, h2, h3, h4⟩ := h.at_
  exact ⟨h.in_, ⟨A, c, h1.keeps hk (hn g h.in_), h2.keeps hk (fun ad ha => hn _ (h4 ad ha).1), h3, h4⟩, fun k hk2 => Nat.lt_of_lt_of_le (h.bd k hk2) hk.size⟩
theorem HR.ext {w w' : World} {g : Nat} {S : Nat → Prop} {l : List UInt8} (h : HR w g S l) (hk : Ext w w') : HR w' g S l := by
  obtain ⟨A, c, h1, h2, h3, h4⟩ := h.at_
  exact ⟨h.in_, ⟨A, c, h1.ext hk, h2.ext hk, h3, h4⟩, fun k hk2 => Nat.lt_of_lt_of_le (h.bd k hk2) hk.size⟩
theorem HR.mono {w : World} {g : Nat} {S S' : Nat → Prop} {l : List UInt8} (h : HR w g S l) (hs : ∀ k, S k → S' k) (hb : ∀ k, S' k → k < w.heap.size) : HR w g S' l := by
  obtain ⟨A, c, h1, h2, h3, h4⟩ := h.at_
  exact ⟨hs g h.in_, ⟨A, c, h1, h2, h3, fun ad ha => ⟨hs _ (h4 ad ha).1, (h4 ad ha).2⟩⟩, hb⟩
theorem hcells_one (s : N8) (A : Option Addr) (n c k : Nat) : ∀ v ∈ hcells s A n c k, v.oneCell' = true := by
  intro v hv
  simp only [hcells, List.mem_cons, List.mem_append, List.not_mem_nil, or_false] at hv
  rcases hv with rfl | hv | rfl | rfl
  · rfl
  · exact uv_one _ v hv
  · rfl
  · rfl
set_option maxHeartbeats 8000000 in
theorem newHash_any (w : World) : Calls Try.prog 85 #[] w (fun en w' => ∃ g, en = .returned (.pointer (some ⟨g, 0, none⟩)) ∧ w.heap.size ≤ g ∧ Ext w w' ∧ HR w' g (more (fun _ => False) w w') []) := by
  refine calls_of_CW Try.func85 rfl (by simp [Try.ntmps85]) ?_
  rw [Try.ntmps85]
  refine go_Sha3 (k := ?_)
  refine OW_callV Try.func93 (by kernel_rfl) rfl (first_any w) rfl ?_
  intro w1 hx1
  refine go_Sha3 (k := ?_)
  refine OW_build _ _ bld_H rfl ?_
  refine go_Sha3 (k := ?_)
  refine OW_box _ rfl ?_
  intro w2 g hb hg hlt hx
  refine go_Sha3 (k := ?_)
  have s1 := hx1.size
  exact bodyE_ret1 rfl (.pointer (some ⟨g, 0, none⟩)) rfl ⟨g, rfl, by omega, hx1.trans' hx, .inr ⟨by omega, hlt⟩, ⟨none, 0, hb, Bs.nil _ _, Nat.le_refl _, fun ad h => by cases h⟩, fun k hk => by rcases hk with h | h; exact h.elim; exact h.2⟩
set_option maxHeartbeats 8000000 in
theorem none_any (w : World) (g : Nat) (s : N8) (A : Option Addr) (n c k : Nat) (h : Blk w g 124 (hcells s A n c k).toArray) : Calls Try.prog 94 #[.pointer (some ⟨g, 0, none⟩)] w (RetV w (.bool false)) := by
  refine calls_of_CW Try.func94 rfl (by simp [Try.ntmps94]) ?_
  rw [Try.ntmps94]
  refine go_Sha3 (k := ?_)
  refine OW_isLoad ?_
  refine OW_loadBk s_bool rfl h (.bool true) rfl ?_
  refine go_Sha3 (k := ?_)
  exact bodyE_ret1 rfl (.bool false) rfl ⟨rfl, Ext.rfl' _⟩
set_option maxHeartbeats 8000000 in
theorem blocks_any (w : World) (A : Option Addr) (n c : Nat) : Calls Try.prog 95 #[.slice A n c] w (fun en w' => ∃ g, en = .returned (.func (.func 98) #[] #[.pointer (some ⟨g, 0, none⟩)]) ∧ Blk w' g 22 #[.slice A n c] ∧ w.heap.size ≤ g ∧ Ext w w') := by
  refine calls_of_CW Try.func95 rfl (by simp [Try.ntmps95]) ?_
  rw [Try.ntmps95]
  refine go_Sha3 (k := ?_)
  refine OW_box _ rfl ?_
  intro w1 g hb hg hlt hx
  refine go_Sha3 (k := ?_)
  refine OW_mkFunc [.pointer (some ⟨g, 0, none⟩)] rfl ?_
  refine go_Sha3 (k := ?_)
  exact bodyE_ret1 rfl _ rfl ⟨g, rfl, hb, hg, hx⟩
end Go.Proofs.Ytkidofecahaajaa
