/- Walks: the reference's forms of fields, and the statements' Form. -/
import Derived.Test.YtnaflojlmgnkgaaWireL
import Derived.Test.YtnaflojlmgnkgaaRefPut
import Derived.Test.YtnaflojlmgnkgaaCut
namespace Go.Proofs.Ytnaflojlmgnkgaa
open Go Go.RowKit
set_option linter.unusedVariables false
set_option maxRecDepth 4000
theorem go_Form {A B : Prop} (h : Held B → A := by
  intro hEnd
  repeat (first | refine OW_moveV (.int _ _) rfl ?_ | refine OW_moveV (.slice _ _ _) rfl ?_ | refine OW_moveV (.bool _) rfl ?_ | refine OW_moveV (.pointer _) rfl ?_ | refine OW_moveV (.string _) rfl ?_ | refine OW_moveV (.agg _) rfl ?_ | refine OW_moveV (.tuple _) rfl ?_ | refine OW_nil ?_ | refine thenE_normal ?_ | refine CW_seq ?_ | refine CW_region (by kernel_rfl) ?_ | refine OW_assignV (.int _ _) rfl ?_ | refine OW_assignV (.slice _ _ _) rfl ?_ | refine OW_assignV (.bool _) rfl ?_ | refine OW_assignV (.pointer _) rfl ?_ | refine OW_assignV (.string _) rfl ?_ | refine OW_assignV (.agg _) rfl ?_ | refine OW_assignV (.tuple _) rfl ?_ | refine OW_addI rfl rfl (by omega) ?_ | refine OW_subI rfl rfl (by omega) ?_ | refine OW_mulI rfl rfl (by omega) ?_ | refine OW_lss rfl rfl ?_ | refine OW_extract rfl rfl ?_ | refine OW_gtr rfl rfl ?_ | refine OW_leq rfl rfl ?_ | refine OW_geq rfl rfl ?_ | refine OW_eql rfl rfl ?_ | refine OW_neq rfl rfl ?_ | refine OW_not rfl ?_ | refine OW_pickT rfl _ rfl ?_ | refine OW_pickF rfl (.bool _) rfl ?_ | refine OW_pickB rfl rfl rfl ?_ | refine OW_move ?_ | refine OW_assign ?_ | refine OW_pass rfl ?_ | refine OW_take rfl ?_ | refine OW_lenS (by first | with_reducible exact und_bytes | with_reducible exact und_bytess) rfl ?_ | refine OW_convInt (by first | with_reducible exact und_u8 | with_reducible exact und_u64 | with_reducible exact und_int | with_reducible exact und_u32) (by first | with_reducible exact und_u8 | with_reducible exact und_u64 | with_reducible exact und_int | with_reducible exact und_u32) rfl ?_ | refine OW_add rfl rfl ?_ | refine OW_sub rfl rfl ?_ | refine OW_mul rfl rfl ?_ | refine OW_min2 rfl rfl ?_ | refine OW_max2 rfl rfl ?_ | refine OW_neg rfl ?_ | refine CW_block ?_ | refine CW_condT rfl ?_ | refine CW_condF rfl ?_ | refine CW_exit ?_ | refine CW_ret ?_ | refine CW_skip ?_ | refine thenE_exit ?_ | refine thenE_ret ?_ | refine inBlockE_normal ?_ | refine inBlockE_same ?_ | refine inBlockE_ret ?_ | refine inBlockE_ne (by rfl) ?_ | refine OW_eqlB (by with_reducible exact und_bool) rfl rfl ?_ | refine OW_neqB (by with_reducible exact und_bool) rfl rfl ?_ | refine OW_idxS (by with_reducible exact und_bytes) one_u8 rfl rfl _ rfl (by omega) ?_ | refine OW_idxS (by with_reducible exact und_bytess) one_bytes rfl rfl _ rfl (by omega) ?_ | refine OW_load1 (by first | with_reducible exact one_u8 | with_reducible exact one_bytes) rfl _ (by assumption) ?_ | refine OW_rem rfl rfl (by decide) ?_ | refine OW_lenS (by with_reducible exact und_Fs) rfl ?_ | refine OW_idxN und_Fs el_F rfl rfl _ rfl (by omega) ?_ | refine OW_fieldF fld_F0 rfl ?_ | refine OW_fieldF fld_F1 rfl ?_ | refine OW_fieldF fld_F2 rfl ?_ | refine OW_fieldF fld_F3 rfl ?_ | refine OW_load1 (by first | with_reducible exact one_int) rfl _ (by assumption) ?_)
  exact hEnd.out) (k : B) : A := h ⟨k⟩
section
variable {ops : Array Oper} {Q : Exit → (Nat → Value) → World → Prop} {rest : List Oper} {e : Nat → Value} {w : World} {d : Tmp} {ty : TypeId} {pos : String} {aft : Array Edge}
/-- Bytes more onto bytes of the call's own. -/
theorem OW_apB {x y : Operand} {base : Nat} {A A' : Option Addr} {c c' : Nat} {l l' : List UInt8} (hx : ev e x = .slice A l.length c) (hy : ev e y = .slice A' l'.length c') (ho : w.ownsRow base 5 1 (.slice A l.length c) l.length (l.map bv)) (hb : Bs w A' l') (hl : l.length + l'.length ≤ 1000000) (hbase : base ≤ w.heap.size)
    (h : ∀ w' A2 c2, w'.ownsRow base 5 1 (.slice A2 (l ++ l').length c2) (l ++ l').length ((l ++ l').map bv) → Below base w w' → OW Try.prog ops Q rest (upd e d (.slice A2 (l ++ l').length c2)) w') :
    OW Try.prog ops Q (⟨some d, .call { callee := .builtin .append, args := #[x, y], argTypes := #[26, 26] }, ty, pos, aft, none⟩ :: rest) e w := by
  refine OW_append und_bytes info_u8 rfl hx hy ho hb (by simp) (bv_one l') (by unfold maxLen; omega) (by omega) hbase ?_
  intro w' A2 c2 ho2 hb2
  rw [← List.map_append, ← List.length_append] at ho2
  rw [← List.length_append]
  exact h w' A2 c2 ho2 hb2
/-- The first bytes, onto nil. -/
theorem OW_litB {t : TypeId} {parts : Array (Nat × Operand)} {n : Nat} (l : List UInt8) (ht : t = 26) (hp : parts.toList.map (fun x => (x.1, ev e x.2)) = idxParts (l.map bv) 0) (hn : n = l.length) (hl : n ≤ 1000)
    (h : ∀ w' g, Bs w' (some ⟨g, 0, none⟩) l → w.heap.size ≤ g → Ext w w' → Blk w' g 5 (l.map bv).toArray → OW Try.prog ops Q rest (upd e d (.slice (some ⟨g, 0, none⟩) l.length l.length)) w') : OW Try.prog ops Q (⟨some d, .buildSlice t n parts, ty, pos, aft, none⟩ :: rest) e w := by
  subst ht; subst hn
  refine OW_lit (l.map bv) und_bytes info_u8 hp (by simp) (bv_one l) hl ?_
  intro w' g hb hg hx
  exact h w' g (blk_bs l hb) hg hx hb
end
set_option maxHeartbeats 8000000 in
theorem refInt_any (w : World) (n : Int) : Calls Try.prog 44 #[.int .i64 n] w (RetBs 5 w (putL (u64N n) 8)) := by
  refine calls_of_CW Try.func44 rfl (by simp [Try.ntmps44]) ?_
  rw [Try.ntmps44]
  refine go_Form (k := ?_)
  rw [wrap_u64I]
  refine OW_callBs Try.func73 (by kernel_rfl) rfl (refPut_any w (u64N n) 8 8 rfl (by decide) (u64N_lt n)) rfl ?_
  intro w1 A c hf
  refine go_Form (k := ?_)
  exact bodyE_ret1 rfl _ rfl ⟨A, c, rfl, hf⟩
theorem retBs_lit {w w' : World} {g : Nat} (l : List UInt8) (hb : Blk w' g 5 (l.map bv).toArray) (hg : w.heap.size ≤ g) (hx : Ext w w') (hl : l.length ≤ 1000) : RetBs 5 w l (.returned (.slice (some ⟨g, 0, none⟩) l.length l.length)) w' := by
  refine ⟨_, _, rfl, ?_, hx⟩
  have := hb.own hg (by simp [maxLen]; omega)
  simpa using this
set_option maxHeartbeats 8000000 in
theorem refFlag_any (w : World) (is : Bool) : Calls Try.prog 45 #[.bool is] w (RetBs 5 w [if is then 1 else 0]) := by
  refine calls_of_CW Try.func45 rfl (by simp [Try.ntmps45]) ?_
  rw [Try.ntmps45]
  cases is
  · refine go_Form (k := ?_)
    refine OW_litB [0] rfl rfl rfl (by decide) ?_
    intro w1 g hb hg hx hB
    refine go_Form (k := ?_)
    exact bodyE_ret1 rfl _ rfl (retBs_lit [0] hB hg hx (by decide))
  · refine go_Form (k := ?_)
    refine OW_litB [1] rfl rfl rfl (by decide) ?_
    intro w1 g hb hg hx hB
    refine go_Form (k := ?_)
    exact bodyE_ret1 rfl _ rfl (retBs_lit [1] hB hg hx (by decide))
set_option maxHeartbeats 8000000 in
theorem refBytes_any (w : World) (A : Option Addr) (b : List UInt8) (c : Nat) (hb : Bs w A b) (hl : b.length ≤ 900000) : Calls Try.prog 46 #[.slice A b.length c] w (RetBs 5 w (putL b.length 4 ++ b)) := by
  refine calls_of_CW Try.func46 rfl (by simp [Try.ntmps46]) ?_
  rw [Try.ntmps46]
  refine go_Form (k := ?_)
  rw [wrap_u64_lt _ (by omega)]
  refine OW_callBs Try.func73 (by kernel_rfl) rfl (refPut_any w b.length 4 4 rfl (by decide) (by omega)) rfl ?_
  intro w1 A1 c1 hf1
  refine go_Form (k := ?_)
  refine OW_callBs Try.func43 (by kernel_rfl) rfl (refCat_any w1 A1 A (putL b.length 4) b c1 c hf1.bs (hb.ext hf1.ext) (by rw [putL_length]; omega)) rfl ?_
  intro w2 A2 c2 hf2
  refine go_Form (k := ?_)
  exact bodyE_ret1 rfl _ rfl ⟨A2, c2, rfl, hf2.back hf1.ext⟩
set_option maxHeartbeats 8000000 in
theorem ref3Bytes_any (w : World) (t : List UInt8) (ht : t.length = 32) : Calls Try.prog 74 #[.agg (t.map bv).toArray] w (RetBs 5 w t) := by
  refine calls_of_CW Try.func74 rfl (by simp [Try.ntmps74]) ?_
  rw [Try.ntmps74]
  refine go_Form (k := ?_)
  refine OW_box _ rfl ?_
  intro w1 g1 hb1 hg1 hlt1 hx1
  have hb1 : Blk w1 g1 28 (t.map bv).toArray := hb1
  refine go_Form (k := ?_)
  refine CW_loop (fun e' w' => ∃ (k : Nat) (A : Option Addr) (c : Nat), k ≤ 32 ∧ e' 1 = .pointer (some ⟨g1, 0, none⟩) ∧ e' 3 = .slice A (t.take k).length c ∧ e' 4 = .int .i64 k ∧ w'.ownsRow w1.heap.size 5 1 (.slice A (t.take k).length c) (t.take k).length ((t.take k).map bv) ∧ Ext w1 w') (fun e' _ => 32 - (intOf (e' 4)).toNat) ?_ ?_
  · exact ⟨0, none, 0, Nat.zero_le _, rfl, rfl, rfl, World.ownsRow_nil _ _ _ _, Ext.rfl' _⟩
  rintro e' w2 ⟨k, A, c, hk, e1, e3, e4, ho, hx⟩
  rw [upd_self e1, upd_self e3, upd_self e4]
  refine go_Form (k := ?_)
  refine CW_cond _ rfl (fun hh => ?_) (fun hh => ?_)
  · have hlt : k < 32 := by have := of_decide_eq_true hh; omega
    clear hh
    have hcell : w2.cell? ⟨g1, k, none⟩ = some (bv t[k]) := by
      rw [(hb1.ext hx).cell]; simp [ht, hlt]
    refine go_Form (k := ?_)
    refine OW_idxA und_Tag one_u8 rfl rfl k rfl (by omega) ?_
    rw [add0]
    refine OW_load1 one_u8 rfl _ hcell ?_
    refine OW_litB [t[k]] rfl rfl rfl (by decide) ?_
    intro w3 g3 hb3 hg3 hx3 hB3
    refine OW_apB rfl rfl (own_ext ho hx3) hb3 (by simp [ht]; omega) (Nat.le_trans hx.size hx3.size) ?_
    intro w4 A4 c4 ho4 hbel
    rw [← List.take_succ_eq_append_getElem (by omega)] at ho4 ⊢
    refine go_Form (k := ?_)
    refine ⟨⟨k + 1, A4, c4, by omega, rfl, rfl, rfl, ho4, (hx.trans' hx3).trans hbel⟩, ?_⟩
    show 32 - ((k : Int) + 1).toNat < 32 - (k : Int).toNat
    omega
  · have hge : k = 32 := by have := of_decide_eq_false hh; omega
    subst hge
    rw [List.take_of_length_le (by omega)] at ho e3 ⊢
    refine go_Form (k := ?_)
    exact bodyE_ret1 rfl _ rfl ⟨A, c, rfl, own_mono ho hx1.size, hx1.trans' hx⟩
set_option maxHeartbeats 8000000 in
theorem refTag_any (w : World) (t : List UInt8) (ht : t.length = 32) : Calls Try.prog 47 #[.agg (t.map bv).toArray] w (RetBs 5 w t) := by
  refine calls_of_CW Try.func47 rfl (by simp [Try.ntmps47]) ?_
  rw [Try.ntmps47]
  refine go_Form (k := ?_)
  refine OW_box _ rfl ?_
  intro w1 g1 hb1 hg1 hlt1 hx1
  have hb1 : Blk w1 g1 28 (t.map bv).toArray := hb1
  refine go_Form (k := ?_)
  refine OW_loadX agg_Tag rfl (t.map bv) (by simp [ht]) hb1.atL ?_
  refine go_Form (k := ?_)
  refine OW_callBs Try.func74 (by kernel_rfl) rfl (ref3Bytes_any w1 t ht) rfl ?_
  intro w2 A2 c2 hf2
  refine go_Form (k := ?_)
  exact bodyE_ret1 rfl _ rfl ⟨A2, c2, rfl, hf2.back hx1⟩
theorem fcells_one (f : FD) {v : Value} (hv : v.oneCell' = true) : ∀ u ∈ fcells f v, u.oneCell' = true := by
  intro u hu
  simp only [fcells, List.mem_append, List.mem_cons, List.not_mem_nil, or_false] at hu
  rcases hu with (rfl | rfl | rfl) | hu
  · rfl
  · rfl
  · exact hv
  · exact bv_one f.T u hu
theorem fcells_tag {w : World} {g : Nat} {f : FD} {v : Value} (hb : Blk w g 30 (fcells f v).toArray) : At w ⟨g, 3, none⟩ (f.T.map bv) := fun j u hu => by
  rw [addr_add_off, hb.cell, show 3 + j = j + 1 + 1 + 1 by omega]
  simpa [fcells] using hu
/-- The form of fields. -/
def pieceL (f : FD) : List UInt8 := (pieces f).flatten
def formL (l : List FD) : List UInt8 := (l.map pieceL).flatten
theorem formL_take_succ {l : List FD} {k : Nat} (h : k < l.length) : formL (l.take (k + 1)) = formL (l.take k) ++ pieceL l[k] := by
  unfold formL; rw [List.take_succ_eq_append_getElem h, List.map_append, List.flatten_append]; simp only [List.map_cons, List.map_nil, List.flatten_cons, List.flatten_nil, List.append_nil]
theorem pieceL_len {f : FD} (h : f.T.length = 32) : (pieceL f).length ≤ f.B.length + 40 := by
  unfold pieceL pieces
  split
  · simp
  split
  · simp [putL_length]
  split
  · simp
  split
  · simp [putL_length]; omega
  split
  · simp [putL_length]; omega
  split
  · simp [h]
  · simp
theorem formL_len {l : List FD} (h : ∀ (i : Nat) (hi : i < l.length), (l[i]).T.length = 32) : ∀ k, (formL (l.take k)).length ≤ gsum (l.take k) := by
  intro k
  induction k with
  | zero => simp [formL]
  | succ k ih =>
    by_cases hk : k < l.length
    · rw [formL_take_succ hk, gsum_take_succ hk, List.length_append]
      have := pieceL_len (h k hk)
      omega
    · rw [List.take_of_length_le (by omega)] at ih ⊢
      exact ih
theorem FS.tags {w : World} {A : Option Addr} {l : List FD} (h : FS w A l) : ∀ (i : Nat) (hi : i < l.length), (l[i]).T.length = 32 := fun i hi => by
  obtain ⟨_, _, _, _, _, hok⟩ := h.get hi
  exact hok.tag
set_option maxHeartbeats 8000000 in
theorem form_any (w : World) (A : Option Addr) (c : Nat) (l : List FD) (h : FS w A l) (hg : gsum l ≤ 4000) : Calls Try.prog 15 #[.slice A l.length c] w (RetBs 5 w (formL l)) := by
  have hlen := gsum_len l
  refine calls_of_CW Try.func15 rfl (by simp [Try.ntmps15]) ?_
  rw [Try.ntmps15]
  refine go_Form (k := ?_)
  refine CW_loop (fun e' w' => ∃ (k : Nat) (A3 : Option Addr) (c3 : Nat), k ≤ l.length ∧ e' 0 = .slice A l.length c ∧ e' 3 = .slice A3 (formL (l.take k)).length c3 ∧ e' 4 = .int .i64 k ∧ w'.ownsRow w.heap.size 5 1 (.slice A3 (formL (l.take k)).length c3) (formL (l.take k)).length ((formL (l.take k)).map bv) ∧ Ext w w') (fun e' _ => l.length - (intOf (e' 4)).toNat) ?_ ?_
  · exact ⟨0, none, 0, Nat.zero_le _, rfl, rfl, rfl, World.ownsRow_nil _ _ _ _, Ext.rfl' _⟩
  rintro e' w1 ⟨k, A3, c3, hk, e0, e3, e4, ho, hx⟩
  rw [upd_self e0, upd_self e3, upd_self e4]
  refine go_Form (k := ?_)
  refine CW_cond _ rfl (fun hh => ?_) (fun hh => ?_)
  · have hlt : k < l.length := by have := of_decide_eq_true hh; omega
    clear hh
    obtain ⟨ad, A', c', hA, hat, hok⟩ := h.get hlt
    subst hA
    have hfl := formL_len h.tags k
    have hfl2 := formL_len h.tags (k + 1)
    have hgl := gsum_take_le l k
    have hgl2 := gsum_take_le l (k + 1)
    have hml := gsum_mem hlt
    have hsucc := formL_take_succ hlt
    have hpl := pieceL_len hok.tag
    generalize formL (l.take k) = z at *
    generalize hf : l[k] = f at *
    have hcap := hok.cap
    have next : ∀ (w4 : World) (A4 : Option Addr) (c4 : Nat), w4.ownsRow w.heap.size 5 1 (.slice A4 (z ++ pieceL f).length c4) (z ++ pieceL f).length ((z ++ pieceL f).map bv) → Ext w w4 → True := fun _ _ _ _ _ => trivial
    clear next
    refine go_Form (k := ?_)
    refine OW_loadX agg_F rfl (fcells f (.slice A' f.B.length c')) (fcells_length hok.tag) (hat.ext hx) ?_
    refine go_Form (k := ?_)
    refine OW_allocA agg_F ?_
    intro w2 g2 hb2 hg2 hlt2 hx2
    refine go_Form (k := ?_)
    refine OW_storeA agg_F rfl (fcells f (.slice A' f.B.length c')) rfl (fcells_length hok.tag) hb2 (by simp [fcells, tz]) (fcells_one f (by rfl)) ?_
    intro w3 hb3 hg3
    have hx13 : Ext w1 w3 := (Keeps.of_only (S := (· = g2)) hg3 rfl).ext hx2 (fun j hj => by omega)
    have hx3 := hx.trans' hx13
    have ho3 := own_ext ho hx13
    have hok3 := hok.ext hx3
    have m0 : w3.cell? ⟨g2, 0, none⟩ = some (.int .i64 f.kind) := hb3.cell 0
    have m1 : w3.cell? ⟨g2, 1, none⟩ = some (.int .i64 f.n) := hb3.cell 1
    have m2 : w3.cell? ⟨g2, 2, none⟩ = some (.slice A' f.B.length c') := hb3.cell 2
    refine go_Form (k := ?_)
    refine CW_meet (fun e w4 => ∃ A4 c4, e 0 = .slice (some ad) l.length c ∧ e 3 = .slice A4 (z ++ pieceL f).length c4 ∧ e 4 = .int .i64 k ∧ w4.ownsRow w.heap.size 5 1 (.slice A4 (z ++ pieceL f).length c4) (z ++ pieceL f).length ((z ++ pieceL f).map bv) ∧ Ext w w4) ?_ ?_
    · refine CW_cond _ rfl (fun hh => ?_) (fun hh => ?_)
      · have hk0 : f.kind = 0 := by simpa using hh
        have hp : pieceL f = [byteOf f.n] := by unfold pieceL pieces; rw [if_pos hk0]; rfl
        rw [hp]
        clear hh hk0
        refine go_Form (k := ?_)
        rw [wrap_u8I]
        refine OW_litB [byteOf f.n] rfl rfl rfl (by decide) ?_
        intro w4 g4 hb4 hg4 hx4 hB4
        refine OW_apB rfl rfl (own_ext ho3 hx4) hb4 (by simp; omega) (Nat.le_trans hx3.size hx4.size) ?_
        intro w5 A5 c5 ho5 hbel
        refine go_Form (k := ?_)
        exact ⟨rfl, A5, c5, rfl, rfl, rfl, ho5, (hx3.trans' hx4).trans hbel⟩
      have h0 : ¬ f.kind = 0 := by simpa using hh
      clear hh
      refine go_Form (k := ?_)
      refine CW_cond _ rfl (fun hh => ?_) (fun hh => ?_)
      · have hk1 : f.kind = 1 := by simpa using hh
        have hp : pieceL f = putL (u64N f.n) 8 := by unfold pieceL pieces; rw [if_neg h0, if_pos hk1]; simp
        rw [hp]
        clear hh hk1
        refine go_Form (k := ?_)
        refine OW_callBs Try.func44 (by kernel_rfl) rfl (refInt_any w3 f.n) rfl ?_
        intro w4 A4 c4 hf4
        refine OW_apB rfl rfl (own_ext ho3 hf4.ext) hf4.bs (by rw [putL_length]; omega) (Nat.le_trans hx3.size hf4.ext.size) ?_
        intro w5 A5 c5 ho5 hbel
        refine go_Form (k := ?_)
        exact ⟨rfl, A5, c5, rfl, rfl, rfl, ho5, (hx3.trans' hf4.ext).trans hbel⟩
      have h1 : ¬ f.kind = 1 := by simpa using hh
      clear hh
      refine go_Form (k := ?_)
      refine CW_cond _ rfl (fun hh => ?_) (fun hh => ?_)
      · have hk2 : f.kind = 2 := by simpa using hh
        have hp : pieceL f = [if flagOf f.n then 1 else 0] := by unfold pieceL pieces; rw [if_neg h0, if_neg h1, if_pos hk2]; rfl
        rw [hp]
        clear hh hk2
        refine go_Form (k := ?_)
        rw [show (f.n.tmod 2 != 0) = flagOf f.n from rfl]
        refine OW_callBs Try.func45 (by kernel_rfl) rfl (refFlag_any w3 (flagOf f.n)) rfl ?_
        intro w4 A4 c4 hf4
        refine OW_apB rfl rfl (own_ext ho3 hf4.ext) hf4.bs (by simp; omega) (Nat.le_trans hx3.size hf4.ext.size) ?_
        intro w5 A5 c5 ho5 hbel
        refine go_Form (k := ?_)
        exact ⟨rfl, A5, c5, rfl, rfl, rfl, ho5, (hx3.trans' hf4.ext).trans hbel⟩
      have h2 : ¬ f.kind = 2 := by simpa using hh
      clear hh
      refine go_Form (k := ?_)
      refine CW_meet (fun e w4 => e 0 = .slice (some ad) l.length c ∧ e 3 = .slice A3 z.length c3 ∧ e 4 = .int .i64 k ∧ e 5 = .pointer (some ⟨g2, 0, none⟩) ∧ e 17 = .int .i64 f.kind ∧ e 42 = .bool (decide (f.kind = 3 ∨ f.kind = 4)) ∧ w4 = w3) ?_ ?_
      · refine CW_cond _ rfl (fun hh => ?_) (fun hh => ?_)
        · have hk3 : f.kind = 3 := by simpa using hh
          refine CW_skip ⟨rfl, rfl, rfl, rfl, rfl, rfl, ?_, rfl⟩
          show Value.bool (f.kind == 3) = _
          rw [hh, decide_eq_true (.inl hk3)]
        · have hk3 : ¬ f.kind = 3 := by simpa using hh
          refine go_Form (k := ?_)
          refine ⟨rfl, rfl, rfl, rfl, rfl, rfl, ?_, rfl⟩
          show Value.bool (f.kind == 4) = _
          congr 1
          by_cases h4 : f.kind = 4
          · rw [decide_eq_true (.inr h4)]; simpa using h4
          · rw [decide_eq_false (by omega)]; simpa using h4
      rintro e5 w5 ⟨q0, q3, q4, q5, q17, q42, rfl⟩
      rw [upd_self q0, upd_self q3, upd_self q4, upd_self q5, upd_self q17, upd_self q42]
      refine go_Form (k := ?_)
      refine CW_cond _ rfl (fun hh => ?_) (fun hh => ?_)
      · have hk34 := of_decide_eq_true hh
        have hp : pieceL f = putL f.B.length 4 ++ f.B := by
          unfold pieceL pieces
          rw [if_neg h0, if_neg h1, if_neg h2]
          rcases hk34 with h | h
          · rw [if_pos h]; simp
          · rw [if_neg (by omega), if_pos h]; simp
        rw [hp]
        clear hh hk34
        refine go_Form (k := ?_)
        refine OW_callBs Try.func46 (by kernel_rfl) rfl (refBytes_any w5 A' f.B c' hok3.bs (by omega)) rfl ?_
        intro w6 A6 c6 hf6
        refine OW_apB rfl rfl (own_ext ho3 hf6.ext) hf6.bs (by rw [List.length_append, putL_length]; omega) (Nat.le_trans hx3.size hf6.ext.size) ?_
        intro w7 A7 c7 ho7 hbel
        refine go_Form (k := ?_)
        exact ⟨rfl, A7, c7, rfl, rfl, rfl, ho7, (hx3.trans' hf6.ext).trans hbel⟩
      have h34 := of_decide_eq_false hh
      clear hh
      refine go_Form (k := ?_)
      refine CW_cond _ rfl (fun hh => ?_) (fun hh => ?_)
      · have hk5 : f.kind = 5 := by simpa using hh
        have hp : pieceL f = f.T := by unfold pieceL pieces; rw [if_neg h0, if_neg h1, if_neg h2, if_neg (by omega), if_neg (by omega), if_pos hk5]; simp
        rw [hp]
        clear hh hk5
        refine go_Form (k := ?_)
        refine OW_loadX agg_Tag rfl (f.T.map bv) (by simp [hok.tag]) (fcells_tag hb3) ?_
        refine go_Form (k := ?_)
        refine OW_callBs Try.func47 (by kernel_rfl) rfl (refTag_any w5 f.T hok.tag) rfl ?_
        intro w6 A6 c6 hf6
        refine OW_apB rfl rfl (own_ext ho3 hf6.ext) hf6.bs (by rw [hok.tag]; omega) (Nat.le_trans hx3.size hf6.ext.size) ?_
        intro w7 A7 c7 ho7 hbel
        refine go_Form (k := ?_)
        exact ⟨rfl, A7, c7, rfl, rfl, rfl, ho7, (hx3.trans' hf6.ext).trans hbel⟩
      · have hk5 : ¬ f.kind = 5 := by simpa using hh
        have hp : pieceL f = [] := by unfold pieceL pieces; rw [if_neg h0, if_neg h1, if_neg h2, if_neg (by omega), if_neg (by omega), if_neg hk5]; rfl
        rw [hp, List.append_nil]
        refine go_Form (k := ?_)
        exact ⟨rfl, A3, c3, rfl, rfl, rfl, ho3, hx3⟩
    rintro e8 w8 ⟨A8, c8, q0, q3, q4, ho8, hx8⟩
    rw [upd_self q0, upd_self q3, upd_self q4]
    refine go_Form (k := ?_)
    refine ⟨⟨k + 1, A8, c8, by omega, rfl, ?_, rfl, ?_, hx8⟩, ?_⟩
    · rw [hsucc]; rfl
    · rw [hsucc]; exact ho8
    · show l.length - ((k : Int) + 1).toNat < l.length - (k : Int).toNat
      omega
  · have hge : k = l.length := by have := of_decide_eq_false hh; omega
    subst hge
    rw [List.take_of_length_le (Nat.le_refl _)] at ho e3 ⊢
    refine go_Form (k := ?_)
    exact bodyE_ret1 rfl _ rfl ⟨A3, c3, rfl, ho, hx⟩
end Go.Proofs.Ytnaflojlmgnkgaa
