/- Walks: the reference's forms of fields, and the statements' Form. -/
import Derived.Test.YthhphmbhlddihaaWireL
import Derived.Test.YthhphmbhlddihaaRefPut
import Derived.Test.YthhphmbhlddihaaCut
namespace Go.Proofs.Ythhphmbhlddihaa
open Go Go.RowKit
set_option linter.unusedVariables false
set_option maxRecDepth 4000
theorem go_Form {A B : Prop} (h : Held B → A := by
  intro hEnd
  repeat (first | refine OW_moveV (.int _ _) rfl ?_ | refine OW_moveV (.slice _ _ _) rfl ?_ | refine OW_moveV (.bool _) rfl ?_ | refine OW_moveV (.pointer _) rfl ?_ | refine OW_moveV (.string _) rfl ?_ | refine OW_moveV (.agg _) rfl ?_ | refine OW_moveV (.tuple _) rfl ?_ | refine OW_nil ?_ | refine thenE_normal ?_ | refine CW_seq ?_ | refine CW_region (by kernel_rfl) ?_ | refine OW_assignV (.int _ _) rfl ?_ | refine OW_assignV (.slice _ _ _) rfl ?_ | refine OW_assignV (.bool _) rfl ?_ | refine OW_assignV (.pointer _) rfl ?_ | refine OW_assignV (.string _) rfl ?_ | refine OW_assignV (.agg _) rfl ?_ | refine OW_assignV (.tuple _) rfl ?_ | refine OW_addI rfl rfl (by omega) ?_ | refine OW_subI rfl rfl (by omega) ?_ | refine OW_mulI rfl rfl (by omega) ?_ | refine OW_lss rfl rfl ?_ | refine OW_extract rfl rfl ?_ | refine OW_gtr rfl rfl ?_ | refine OW_leq rfl rfl ?_ | refine OW_geq rfl rfl ?_ | refine OW_eql rfl rfl ?_ | refine OW_neq rfl rfl ?_ | refine OW_not rfl ?_ | refine OW_pickT rfl _ rfl ?_ | refine OW_pickF rfl (.bool _) rfl ?_ | refine OW_pickB rfl rfl rfl ?_ | refine OW_move ?_ | refine OW_assign ?_ | refine OW_pass rfl ?_ | refine OW_take rfl ?_ | refine OW_lenS (by first | with_reducible exact und_bytes | with_reducible exact und_bytess) rfl ?_ | refine OW_convInt (by first | with_reducible exact und_u8 | with_reducible exact und_u64 | with_reducible exact und_int | with_reducible exact und_u32) (by first | with_reducible exact und_u8 | with_reducible exact und_u64 | with_reducible exact und_int | with_reducible exact und_u32) rfl ?_ | refine OW_add rfl rfl ?_ | refine OW_sub rfl rfl ?_ | refine OW_mul rfl rfl ?_ | refine OW_min2 rfl rfl ?_ | refine OW_max2 rfl rfl ?_ | refine OW_neg rfl ?_ | refine CW_block ?_ | refine CW_condT rfl ?_ | refine CW_condF rfl ?_ | refine CW_exit ?_ | refine CW_ret ?_ | refine CW_skip ?_ | refine LW_seq ?_ | refine LW_regC ?_ | refine LW_condC ?_ | refine LW_regF ?_ | refine LW_condF ?_ | refine FW_seq ?_ | refine FW_region (by kernel_rfl) ?_ | refine FW_block ?_ | refine FW_condT rfl ?_ | refine FW_condF rfl ?_ | refine FW_exit ?_ | refine FW_ret ?_ | refine FW_skip ?_ | refine LW_ret ?_ | refine LW_skip ?_ | refine thenE_exit ?_ | refine thenE_ret ?_ | refine inBlockE_normal ?_ | refine inBlockE_same ?_ | refine inBlockE_ret ?_ | refine inBlockE_ne (by rfl) ?_ | refine OW_eqlB (by with_reducible exact und_bool) rfl rfl ?_ | refine OW_neqB (by with_reducible exact und_bool) rfl rfl ?_ | refine OW_idxS (by with_reducible exact und_bytes) one_u8 rfl rfl _ rfl (by omega) ?_ | refine OW_idxS (by with_reducible exact und_bytess) one_bytes rfl rfl _ rfl (by omega) ?_ | refine OW_load1 (by first | with_reducible exact one_u8 | with_reducible exact one_bytes) rfl _ (by assumption) ?_ | refine OW_rem rfl rfl (by decide) ?_ | refine OW_lenS (by with_reducible exact und_Fs) rfl ?_ | refine OW_idxN und_Fs el_F rfl rfl _ rfl (by omega) ?_ | refine OW_fieldF fld_F0 rfl ?_ | refine OW_fieldF fld_F1 rfl ?_ | refine OW_fieldF fld_F2 rfl ?_ | refine OW_fieldF fld_F3 rfl ?_ | refine OW_load1 (by first | with_reducible exact one_int) rfl _ (by assumption) ?_)
  exact hEnd.out) (k : B) : A := h ⟨k⟩
section
variable {ops : Array Oper} {Q : Exit → (Nat → Value) → World → Prop} {rest : List Oper} {e : Nat → Value} {w : World} {d : Tmp} {ty : TypeId} {pos : String} {aft : Array Edge}
/-- Bytes more onto bytes of the call's own. -/
theorem OW_apB {x y : Operand} {base : Nat} {A A' : Option Addr} {c c' : Nat} {l l' : List UInt8} (hx : ev e x = .slice A l.length c) (hy : ev e y = .slice A' l'.length c') (ho : w.ownsRow base 5 1 (.slice A l.length c) l.length (l.map bv)) (hb : Bs w A' l') (hl : l.length + l'.length ≤ 1000000) (hbase : base ≤ w.heap.size)
    (h : ∀ w' A2 c2, w'.ownsRow base 5 1 (.slice A2 (l ++ l').length c2) (l ++ l').length ((l ++ l').map bv) → Below base w w' → OW Try.prog ops Q rest (upd e d (.slice A2 (l ++ l').length c2)) w') :
    OW Try.prog ops Q (⟨some d, .call { callee := .builtin .append, args := #[x, y], argTypes := #[22, 22] }, ty, pos, aft, none⟩ :: rest) e w := by
  refine OW_append und_bytes info_u8 rfl hx hy ho hb (by simp) (bv_one l') (by unfold maxLen; omega) (by omega) hbase ?_
  intro w' A2 c2 ho2 hb2
  rw [← List.map_append, ← List.length_append] at ho2
  rw [← List.length_append]
  exact h w' A2 c2 ho2 hb2
/-- The first bytes, onto nil. -/
theorem OW_litB {t : TypeId} {parts : Array (Nat × Operand)} {n : Nat} (l : List UInt8) (ht : t = 22) (hp : parts.toList.map (fun x => (x.1, ev e x.2)) = idxParts (l.map bv) 0) (hn : n = l.length) (hl : n ≤ 1000)
    (h : ∀ w' g, Bs w' (some ⟨g, 0, none⟩) l → w.heap.size ≤ g → Ext w w' → Blk w' g 5 (l.map bv).toArray → OW Try.prog ops Q rest (upd e d (.slice (some ⟨g, 0, none⟩) l.length l.length)) w') : OW Try.prog ops Q (⟨some d, .buildSlice t n parts, ty, pos, aft, none⟩ :: rest) e w := by
  subst ht; subst hn
  refine OW_lit (l.map bv) und_bytes info_u8 hp (by simp) (bv_one l) hl ?_
  intro w' g hb hg hx
  exact h w' g (blk_bs l hb) hg hx hb
end
set_option maxHeartbeats 8000000 in
theorem refInt_any (w : World) (n : Int) : Calls Try.prog 79 #[.int .i64 n] w (RetBs 5 w (putL (u64N n) 8)) := by
  refine calls_of_CW Try.func79 rfl (by simp [Try.ntmps79]) ?_
  rw [Try.ntmps79]
  refine go_Form (k := ?_)
  rw [wrap_u64I]
  refine OW_callBs Try.func98 (by kernel_rfl) rfl (refPut_any w (u64N n) 8 8 rfl (by decide) (u64N_lt n)) rfl ?_
  intro w1 A c hf
  refine go_Form (k := ?_)
  exact bodyE_ret1 rfl _ rfl ⟨A, c, rfl, hf⟩
theorem retBs_lit {w w' : World} {g : Nat} (l : List UInt8) (hb : Blk w' g 5 (l.map bv).toArray) (hg : w.heap.size ≤ g) (hx : Ext w w') (hl : l.length ≤ 1000) : RetBs 5 w l (.returned (.slice (some ⟨g, 0, none⟩) l.length l.length)) w' := by
  refine ⟨_, _, rfl, ?_, hx⟩
  have := hb.own hg (by simp [maxLen]; omega)
  simpa using this
set_option maxHeartbeats 8000000 in
theorem refBytes_any (w : World) (A : Option Addr) (b : List UInt8) (c : Nat) (hb : Bs w A b) (hl : b.length ≤ 900000) : Calls Try.prog 80 #[.slice A b.length c] w (RetBs 5 w (putL b.length 4 ++ b)) := by
  refine calls_of_CW Try.func80 rfl (by simp [Try.ntmps80]) ?_
  rw [Try.ntmps80]
  refine go_Form (k := ?_)
  rw [wrap_u64_lt _ (by omega)]
  refine OW_callBs Try.func98 (by kernel_rfl) rfl (refPut_any w b.length 4 4 rfl (by decide) (by omega)) rfl ?_
  intro w1 A1 c1 hf1
  refine go_Form (k := ?_)
  refine OW_callBs Try.func82 (by kernel_rfl) rfl (refCat_any w1 A1 A (putL b.length 4) b c1 c hf1.bs (hb.ext hf1.ext) (by rw [putL_length]; omega)) rfl ?_
  intro w2 A2 c2 hf2
  refine go_Form (k := ?_)
  exact bodyE_ret1 rfl _ rfl ⟨A2, c2, rfl, hf2.back hf1.ext⟩
set_option maxHeartbeats 8000000 in
theorem ref3Bytes_any (w : World) (t : List UInt8) (ht : t.length = 32) : Calls Try.prog 99 #[.agg (t.map bv).toArray] w (RetBs 5 w t) := by
  refine calls_of_CW Try.func99 rfl (by simp [Try.ntmps99]) ?_
  rw [Try.ntmps99]
  refine go_Form (k := ?_)
  refine OW_box _ rfl ?_
  intro w1 g1 hb1 hg1 hlt1 hx1
  have hb1 : Blk w1 g1 24 (t.map bv).toArray := hb1
  refine go_Form (k := ?_)
  refine CW_loop (fun e' w' => ∃ (k : Nat) (A : Option Addr) (c : Nat), k ≤ 32 ∧ e' 1 = .pointer (some ⟨g1, 0, none⟩) ∧ e' 3 = .slice A (t.take k).length c ∧ e' 4 = .int .i64 k ∧ w'.ownsRow w1.heap.size 5 1 (.slice A (t.take k).length c) (t.take k).length ((t.take k).map bv) ∧ Ext w1 w') (fun e' _ => 32 - (intOf (e' 4)).toNat) ?_ ?_
  · exact ⟨0, none, 0, Nat.zero_le _, rfl, rfl, rfl, World.ownsRow_nil _ _ _ _, Ext.rfl' _⟩
  rintro e' w2 ⟨k, A, c, hk, e1, e3, e4, ho, hx⟩
  rw [upd_self e1, upd_self e3, upd_self e4]
  refine go_Form (k := ?_)
  refine CW_cond _ rfl (fun hh => ?_) (fun hh => ?_)
  · have hlt : k < 32 := by have := of_decide_eq_true hh; omega
    clear hh
    have hcell : w2.cell? ⟨g1, k, none⟩ = some (bv t[k]) := by
      rw [(hb1.ext hx).cell]; simp [ht, hlt]
    refine go_Form (k := ?_)
    refine OW_idxA und_Tag one_u8 rfl rfl k rfl (by omega) ?_
    rw [add0]
    refine OW_load1 one_u8 rfl _ hcell ?_
    refine OW_litB [t[k]] rfl rfl rfl (by decide) ?_
    intro w3 g3 hb3 hg3 hx3 hB3
    refine OW_apB rfl rfl (own_ext ho hx3) hb3 (by simp [ht]; omega) (Nat.le_trans hx.size hx3.size) ?_
    intro w4 A4 c4 ho4 hbel
    rw [← List.take_succ_eq_append_getElem (by omega)] at ho4 ⊢
    refine go_Form (k := ?_)
    refine ⟨⟨k + 1, A4, c4, by omega, rfl, rfl, rfl, ho4, (hx.trans' hx3).trans hbel⟩, ?_⟩
    show 32 - ((k : Int) + 1).toNat < 32 - (k : Int).toNat
    omega
  · have hge : k = 32 := by have := of_decide_eq_false hh; omega
    subst hge
    rw [List.take_of_length_le (by omega)] at ho e3 ⊢
    refine go_Form (k := ?_)
    exact bodyE_ret1 rfl _ rfl ⟨A, c, rfl, own_mono ho hx1.size, hx1.trans' hx⟩
set_option maxHeartbeats 8000000 in
theorem refTag_any (w : World) (t : List UInt8) (ht : t.length = 32) : Calls Try.prog 81 #[.agg (t.map bv).toArray] w (RetBs 5 w t) := by
  refine calls_of_CW Try.func81 rfl (by simp [Try.ntmps81]) ?_
  rw [Try.ntmps81]
  refine go_Form (k := ?_)
  refine OW_box _ rfl ?_
  intro w1 g1 hb1 hg1 hlt1 hx1
  have hb1 : Blk w1 g1 24 (t.map bv).toArray := hb1
  refine go_Form (k := ?_)
  refine OW_loadX agg_Tag rfl (t.map bv) (by simp [ht]) hb1.atL ?_
  refine go_Form (k := ?_)
  refine OW_callBs Try.func99 (by kernel_rfl) rfl (ref3Bytes_any w1 t ht) rfl ?_
  intro w2 A2 c2 hf2
  refine go_Form (k := ?_)
  exact bodyE_ret1 rfl _ rfl ⟨A2, c2, rfl, hf2.back hx1⟩
theorem fcells_one (f : FD) {v : Value} (hv : v.oneCell' = true) : ∀ u ∈ fcells f v, u.oneCell' = true := by
  intro u hu
  simp only [fcells, List.mem_append, List.mem_cons, List.not_mem_nil, or_false] at hu
  rcases hu with (rfl | rfl | rfl) | hu
  · rfl
  · rfl
  · exact hv
  · exact bv_one f.T u hu
theorem fcells_tag {w : World} {g : Nat} {f : FD} {v : Value} (hb : Blk w g 26 (fcells f v).toArray) : At w ⟨g, 3, none⟩ (f.T.map bv) := fun j u hu => by
  rw [addr_add_off, hb.cell, show 3 + j = j + 1 + 1 + 1 by omega]
  simpa [fcells] using hu
/-- The form of fields. -/
def pieceL (f : FD) : List UInt8 := (pieces f).flatten
def formL (l : List FD) : List UInt8 := (l.map pieceL).flatten
theorem formL_take_succ {l : List FD} {k : Nat} (h : k < l.length) : formL (l.take (k + 1)) = formL (l.take k) ++ pieceL l[k] := by
  unfold formL; rw [List.take_succ_eq_append_getElem h, List.map_append, List.flatten_append]; simp only [List.map_cons, List.map_nil, List.flatten_cons, List.flatten_nil, List.append_nil]
theorem pieceL_len {f : FD} (h : f.T.length = 32) : (pieceL f).length ≤ f.B.length + 40 := by
  unfold pieceL pieces
  split
  · simp
  split
  · simp [putL_length]
  split
  · simp
  split
  · simp [putL_length]; omega
  split
  · simp [putL_length]; omega
  split
  · simp [h]
  · simp
theorem formL_len {l : List FD} (h : ∀ (i : Nat) (hi : i < l.length), (l[i]).T.length = 32) : ∀ k, (formL (l.take k)).length ≤ gsum (l.take k) := by
  intro k
  induction k with
  | zero => simp [formL]
  | succ k ih =>
    by_cases hk : k < l.length
    · rw [formL_take_succ hk, gsum_take_succ hk, List.length_append]
      have := pieceL_len (h k hk)
      omega
    · rw [List.take_of_length_le (by omega)] at ih ⊢
      exact ih
theorem FS.tags {w : World} {A : Option Addr} {l : List FD} (h : FS w A l) : ∀ (i : Nat) (hi : i < l.length), (l[i]).T.length = 32 := fun i hi => by
  obtain ⟨_, _, _, _, _, hok⟩ := h.get hi
  exact hok.tag
end Go.Proofs.Ythhphmbhlddihaa
