/- Several texts in one, as they stand in wip/src. -/
import Derived.Test.YtnfeibbnjdegfaaGw13
import Derived.Test.YtnfeibbnjdegfaaGw16
/- Walks: the statements' own functions on disks: do, begins, the chapter's examples. -/
namespace Go.Proofs.Ytnfeibbnjdegfaa
open Go Go.RowKit
set_option linter.unusedVariables false
set_option maxRecDepth 4000
theorem go_DskB {A B : Prop} (h : Held B → A := by
  intro hEnd
  repeat (first | refine OW_fieldB fldo_A0 rfl ?_ | refine OW_fieldB fldo_A1 rfl ?_ | refine OW_fieldB fldo_A2 rfl ?_ | refine OW_fieldB fldo_A3 rfl ?_ | refine OW_neqF rfl rfl rfl ?_ | refine OW_moveV (.int _ _) rfl ?_ | refine OW_moveV (.slice _ _ _) rfl ?_ | refine OW_moveV (.bool _) rfl ?_ | refine OW_moveV (.pointer _) rfl ?_ | refine OW_moveV (.string _) rfl ?_ | refine OW_moveV (.agg _) rfl ?_ | refine OW_moveV (.tuple _) rfl ?_ | refine OW_nil ?_ | refine thenE_normal ?_ | refine CW_seq ?_ | refine CW_region (by kernel_rfl) ?_ | refine OW_assignV (.int _ _) rfl ?_ | refine OW_assignV (.slice _ _ _) rfl ?_ | refine OW_assignV (.bool _) rfl ?_ | refine OW_assignV (.pointer _) rfl ?_ | refine OW_assignV (.string _) rfl ?_ | refine OW_assignV (.agg _) rfl ?_ | refine OW_assignV (.tuple _) rfl ?_ | refine OW_addI rfl rfl (by omega) ?_ | refine OW_subI rfl rfl (by omega) ?_ | refine OW_mulI rfl rfl (by omega) ?_ | refine OW_lss rfl rfl ?_ | refine OW_extract rfl rfl ?_ | refine OW_gtr rfl rfl ?_ | refine OW_leq rfl rfl ?_ | refine OW_geq rfl rfl ?_ | refine OW_eql rfl rfl ?_ | refine OW_neq rfl rfl ?_ | refine OW_not rfl ?_ | refine OW_pickT rfl _ rfl ?_ | refine OW_pickF rfl (.bool _) rfl ?_ | refine OW_pickB rfl rfl rfl ?_ | refine OW_move ?_ | refine OW_assign ?_ | refine OW_pass rfl ?_ | refine OW_take rfl ?_ | refine OW_lenS (by first | with_reducible exact und_bytes | with_reducible exact und_bytess) rfl ?_ | refine OW_convInt (by first | with_reducible exact und_u8 | with_reducible exact und_u64 | with_reducible exact und_int | with_reducible exact und_u32) (by first | with_reducible exact und_u8 | with_reducible exact und_u64 | with_reducible exact und_int | with_reducible exact und_u32) rfl ?_ | refine OW_add rfl rfl ?_ | refine OW_sub rfl rfl ?_ | refine OW_mul rfl rfl ?_ | refine OW_min2 rfl rfl ?_ | refine OW_max2 rfl rfl ?_ | refine OW_neg rfl ?_ | refine CW_block ?_ | refine CW_condT rfl ?_ | refine CW_condF rfl ?_ | refine CW_exit ?_ | refine CW_ret ?_ | refine CW_skip ?_ | refine LW_seq ?_ | refine LW_regC ?_ | refine LW_condC ?_ | refine LW_regF ?_ | refine LW_condF ?_ | refine FW_seq ?_ | refine FW_region (by kernel_rfl) ?_ | refine FW_block ?_ | refine FW_condT rfl ?_ | refine FW_condF rfl ?_ | refine FW_exit ?_ | refine FW_ret ?_ | refine FW_skip ?_ | refine LW_ret ?_ | refine LW_skip ?_ | refine thenE_exit ?_ | refine thenE_ret ?_ | refine inBlockE_normal ?_ | refine inBlockE_same ?_ | refine inBlockE_ret ?_ | refine inBlockE_ne (by rfl) ?_ | refine OW_eqlB (by with_reducible exact und_bool) rfl rfl ?_ | refine OW_neqB (by with_reducible exact und_bool) rfl rfl ?_ | refine OW_idxS (by with_reducible exact und_bytes) one_u8 rfl rfl _ rfl (by omega) ?_ | refine OW_idxS (by with_reducible exact und_bytess) one_bytes rfl rfl _ rfl (by omega) ?_ | refine OW_load1 (by first | with_reducible exact one_u8 | with_reducible exact one_bytes) rfl _ (by assumption) ?_ | refine OW_load1 s_int rfl _ (by assumption) ?_ | refine OW_load1 one_bytes rfl _ (by assumption) ?_)
  exact hEnd.out) (k : B) : A := h ⟨k⟩
section
variable {P : Program} {ops : Array Oper} {Q : Exit → (Nat → Value) → World → Prop} {rest : List Oper} {e : Nat → Value} {w : World} {d : Tmp} {ty : TypeId} {pos : String} {aft : Array Edge}
theorem OW_neqF {x y : Operand} {t t' : TypeId} {k : IntKind} {a b : Int} (hx : ev e x = .int k a) (hy : ev e y = .int k b) (hab : a = b) (h : OW P ops Q rest (upd e d (.bool false)) w) : OW P ops Q (⟨some d, .binOp .neq t x y t', ty, pos, aft, none⟩ :: rest) e w := by
  refine OW_neq hx hy ?_
  rw [show (a != b) = false by simp [hab]]
  exact h
end
/-- Bytes beside an object. -/
structure Out (w : World) (S : Nat → Prop) (A : Option Addr) (l : List UInt8) : Prop where
  bs : Bs w A l
  out : ∀ ad, A = some ad → l ≠ [] → ¬ S ad.block ∧ ad.block < w.heap.size
theorem Out.fresh {w w' : World} {S : Nat → Prop} {A : Option Addr} {l : List UInt8} (hb : ∀ k, S k → k < w.heap.size) (h : FreB w' w.heap.size A l) : Out w' S A l :=
  ⟨h.bs, fun ad ha hl => by obtain ⟨g, rfl, h1, h2⟩ := h.at_ ad ha hl; exact ⟨fun hh => by have := hb _ hh; simp only at this; omega, h2⟩⟩
theorem Out.ext {w w' : World} {S : Nat → Prop} {A : Option Addr} {l : List UInt8} (h : Out w S A l) (hx : Ext w w') : Out w' S A l :=
  ⟨h.bs.ext hx, fun ad ha hl => ⟨(h.out ad ha hl).1, Nat.lt_of_lt_of_le (h.out ad ha hl).2 hx.size⟩⟩
theorem Out.keep {w w' : World} {S : Nat → Prop} {A : Option Addr} {l : List UInt8} (h : Out w S A l) (hk : Keeps w w' S) : Out w' (more S w w') A l := by
  by_cases hl : l = []
  · subst hl; exact ⟨Bs.nil _ _, fun _ _ h => absurd rfl h⟩
  · refine ⟨h.bs.keeps hk (fun ad ha => (h.out ad ha hl).1), fun ad ha hl => ?_⟩
    obtain ⟨h1, h2⟩ := h.out ad ha hl
    exact ⟨fun hh => by rcases hh with hh | hh; exact h1 hh; omega, Nat.lt_of_lt_of_le h2 hk.size⟩
set_option maxHeartbeats 8000000 in
theorem do_any (w : World) (g : Nat) (S : Nat → Prop) (d : DS) (h : DR w g S d) (f : AD) (A : Option Addr) (c : Nat) (hok : AOk w f A c) (hl : d.all.length ≤ 1000000) (hn : d.ws.length ≤ 1000000) (hb : f.B.length ≤ 1000000) :
    Calls Try.prog 36 #[.pointer (some ⟨g, 0, none⟩), .agg (acells f (.slice A f.B.length c)).toArray] w (MP w g S (dAct d f)) := by
  have hbd := h.bd
  refine calls_of_CW Try.func36 rfl (by simp [Try.ntmps36]) ?_
  rw [Try.ntmps36]
  refine go_DskB (k := ?_)
  refine OW_box _ rfl ?_
  intro w1 g3 hb1 hg3 hl3 hx
  have hb1 : Blk w1 g3 37 (acells f (.slice A f.B.length c)).toArray := hb1
  have m0 : w1.cell? ⟨g3, 0, none⟩ = some (.int .i64 f.kind) := hb1.cell 0
  have m1 : w1.cell? ⟨g3, 1, none⟩ = some (.int .i64 f.n) := hb1.cell 1
  have m2 : w1.cell? ⟨g3, 2, none⟩ = some (.int .i64 f.m) := hb1.cell 2
  have m3 : w1.cell? ⟨g3, 3, none⟩ = some (.slice A f.B.length c) := hb1.cell 3
  have hD := h.ext hx
  clear hb1
  refine go_DskB (k := ?_)
  refine CW_meet (fun e' w' => e' 0 = .pointer (some ⟨g, 0, none⟩) ∧ e' 3 = .pointer (some ⟨g3, 0, none⟩) ∧ e' 6 = .int .i64 f.kind ∧ e' 7 = .bool (decide (f.kind = 0 ∨ f.kind = 1 ∨ f.kind = 2)) ∧ w' = w1) ?_ ?_
  · refine CW_cond _ rfl (fun hh => ?_) (fun hh => ?_)
    · have h0 : f.kind = 0 := by simpa using hh
      rw [hh]
      refine go_DskB (k := ?_)
      exact ⟨rfl, rfl, rfl, rfl, by rw [decide_eq_true (show f.kind = 0 ∨ f.kind = 1 ∨ f.kind = 2 from .inl h0)]; rfl, rfl⟩
    have h0 : ¬ f.kind = 0 := by simpa using hh
    refine go_DskB (k := ?_)
    refine CW_cond _ rfl (fun hh => ?_) (fun hh => ?_)
    · have h1 : f.kind = 1 := by simpa using hh
      rw [hh]
      refine go_DskB (k := ?_)
      exact ⟨rfl, rfl, rfl, rfl, by rw [decide_eq_true (show f.kind = 0 ∨ f.kind = 1 ∨ f.kind = 2 from .inr (.inl h1))]; rfl, rfl⟩
    have h1 : ¬ f.kind = 1 := by simpa using hh
    refine go_DskB (k := ?_)
    refine ⟨rfl, rfl, rfl, rfl, ?_, rfl⟩
    show Value.bool _ = _
    by_cases h2 : f.kind = 2 <;> simp [h0, h1, h2]
  rintro e2 w2 ⟨q0, q3, q6, q7, rfl⟩
  rw [upd_self q0, upd_self q3, upd_self q6, upd_self q7]
  refine go_DskB (k := ?_)
  refine CW_cond _ rfl (fun hh => ?_) (fun hh => ?_)
  · have hk : f.kind = 0 ∨ f.kind = 1 ∨ f.kind = 2 := of_decide_eq_true hh
    rw [show dAct d f = dWrite d f.B by unfold dAct; rw [if_pos hk]]
    refine go_DskB (k := ?_)
    refine OW_callC Try.func23 (by kernel_rfl) rfl (dWrite_any w2 g S d hD hn A c f.B (hok.bs.ext hx) hb) rfl ?_
    rintro en w3 hm
    refine ⟨_, hm.1, ?_⟩
    refine go_DskB (k := ?_)
    exact bodyE_ret1 rfl (.int .i64 (dWrite d f.B).1) rfl (by rw [← hm.1]; exact hm.of hx hbd)
  have h0 : ¬ (f.kind = 0 ∨ f.kind = 1 ∨ f.kind = 2) := of_decide_eq_false hh
  clear hh
  refine go_DskB (k := ?_)
  refine CW_cond _ rfl (fun hh => ?_) (fun hh => ?_)
  · have hk : f.kind = 3 := by simpa using hh
    rw [show dAct d f = dSync d by unfold dAct; rw [if_neg h0, if_pos hk]]
    refine go_DskB (k := ?_)
    refine OW_callC Try.func24 (by kernel_rfl) rfl (dSync_any w2 g S d hD hl hn) rfl ?_
    rintro en w3 hm
    refine ⟨_, hm.1, ?_⟩
    refine go_DskB (k := ?_)
    exact bodyE_ret1 rfl (.int .i64 (dSync d).1) rfl (by rw [← hm.1]; exact hm.of hx hbd)
  have h3 : ¬ f.kind = 3 := by simpa using hh
  clear hh
  refine go_DskB (k := ?_)
  refine CW_cond _ rfl (fun hh => ?_) (fun hh => ?_)
  · have hk : f.kind = 4 := by simpa using hh
    rw [show dAct d f = dCrash d f.n f.m by unfold dAct; rw [if_neg h0, if_neg h3, if_pos hk]]
    refine go_DskB (k := ?_)
    refine OW_callC Try.func25 (by kernel_rfl) rfl (dCrash_any w2 g S d hD hl hn f.n f.m hok.n hok.m) rfl ?_
    rintro en w3 hm
    refine ⟨_, hm.1, ?_⟩
    refine go_DskB (k := ?_)
    exact bodyE_ret1 rfl (.int .i64 (dCrash d f.n f.m).1) rfl (by rw [← hm.1]; exact hm.of hx hbd)
  have h4 : ¬ f.kind = 4 := by simpa using hh
  clear hh
  refine go_DskB (k := ?_)
  refine CW_meet (fun e' w' => e' 0 = .pointer (some ⟨g, 0, none⟩) ∧ e' 3 = .pointer (some ⟨g3, 0, none⟩) ∧ e' 6 = .int .i64 f.kind ∧ e' 27 = .bool (decide (f.kind = 5 ∨ f.kind = 6)) ∧ w' = w2) ?_ ?_
  · refine CW_cond _ rfl (fun hh => ?_) (fun hh => ?_)
    · have h5 : f.kind = 5 := by simpa using hh
      rw [hh]
      refine go_DskB (k := ?_)
      exact ⟨rfl, rfl, rfl, rfl, by rw [decide_eq_true (show f.kind = 5 ∨ f.kind = 6 from .inl h5)]; rfl, rfl⟩
    have h5 : ¬ f.kind = 5 := by simpa using hh
    refine go_DskB (k := ?_)
    refine ⟨rfl, rfl, rfl, rfl, ?_, rfl⟩
    show Value.bool _ = _
    by_cases h6 : f.kind = 6 <;> simp [h5, h6]
  rintro e3 w3 ⟨q0, q3, q6, q27, rfl⟩
  rw [upd_self q0, upd_self q3, upd_self q6, upd_self q27]
  refine go_DskB (k := ?_)
  refine CW_cond _ rfl (fun hh => ?_) (fun hh => ?_)
  · have hk : f.kind = 5 ∨ f.kind = 6 := of_decide_eq_true hh
    rw [show dAct d f = dStart d by unfold dAct; rw [if_neg h0, if_neg h3, if_neg h4, if_pos hk]]
    refine go_DskB (k := ?_)
    refine OW_callC Try.func26 (by kernel_rfl) rfl (dStart_any w3 g S d hD) rfl ?_
    rintro en w4 hm
    refine ⟨_, hm.1, ?_⟩
    refine go_DskB (k := ?_)
    exact bodyE_ret1 rfl (.int .i64 (dStart d).1) rfl (by rw [← hm.1]; exact hm.of hx hbd)
  have h5 : ¬ (f.kind = 5 ∨ f.kind = 6) := of_decide_eq_false hh
  clear hh
  refine go_DskB (k := ?_)
  refine CW_cond _ rfl (fun hh => ?_) (fun hh => ?_)
  · have hk : f.kind = 7 := by simpa using hh
    rw [show dAct d f = dCut d f.n by unfold dAct; rw [if_neg h0, if_neg h3, if_neg h4, if_neg h5, if_pos hk]]
    refine go_DskB (k := ?_)
    refine OW_callC Try.func27 (by kernel_rfl) rfl (dCut_any w3 g S d hD hl hn f.n) rfl ?_
    rintro en w4 hm
    refine ⟨_, hm.1, ?_⟩
    refine go_DskB (k := ?_)
    exact bodyE_ret1 rfl (.int .i64 (dCut d f.n).1) rfl (by rw [← hm.1]; exact hm.of hx hbd)
  have h7 : ¬ f.kind = 7 := by simpa using hh
  rw [show dAct d f = (0, d) by unfold dAct; rw [if_neg h0, if_neg h3, if_neg h4, if_neg h5, if_neg h7]]
  refine go_DskB (k := ?_)
  exact bodyE_ret1 rfl (.int .i64 0) rfl (MP.stay h hx 0)
/-- Is one list the other's beginning? -/
def beginB (a b : List UInt8) : Bool := decide (a.length ≤ b.length) && (a == b.take a.length)
theorem begin_pre {a b : List UInt8} (h : a <+: b) : beginB a b = true := by
  obtain ⟨h1, h2⟩ := prefix_take h
  unfold beginB
  rw [h2]
  simp [h1]
set_option maxHeartbeats 8000000 in
theorem begins_any (w : World) (A B : Option Addr) (cA cB : Nat) (a b : List UInt8) (ha : Bs w A a) (hca : a.length ≤ cA) (hb : Bs w B b) (hcb : b.length ≤ cB) (hla : a.length ≤ 1000000) (hlb : b.length ≤ 1000000) :
    Calls Try.prog 37 #[.slice A a.length cA, .slice B b.length cB] w (RetV w (.bool (beginB a b))) := by
  refine calls_of_CW Try.func37 rfl (by simp [Try.ntmps37]) ?_
  rw [Try.ntmps37]
  refine go_DskB (k := ?_)
  refine OW_split 10 _ rfl (fun h => ?_) (fun h => ?_)
  · have hle : a.length ≤ b.length := by simpa using h
    rw [show beginB a b = (a == b.take a.length) by unfold beginB; rw [decide_eq_true hle]; rfl]
    clear h
    refine go_DskB (k := ?_)
    refine OW_sliceBs und_bytes one_u8 hb rfl hcb rfl rfl ⟨_, rfl⟩ 0 a.length rfl rfl (by omega) ?_
    intro A3 hb3 hl3
    rw [show (b.drop 0).take (a.length - 0) = b.take a.length from rfl] at hb3 hl3
    rw [← hl3]
    refine go_DskB (k := ?_)
    refine OW_callV Try.func38 (by kernel_rfl) rfl (same_any w A A3 a (b.take a.length) cA (cB - 0) ha hb3 hca ⟨hla, by omega⟩) rfl ?_
    intro w1 hx1
    refine go_DskB (k := ?_)
    exact bodyE_ret1 rfl (.bool (a == b.take a.length)) rfl ⟨rfl, hx1⟩
  · have hgt : ¬ a.length ≤ b.length := by simpa using h
    rw [show beginB a b = false by unfold beginB; rw [decide_eq_false hgt]; rfl]
    refine go_DskB (k := ?_)
    exact bodyE_ret1 rfl (.bool false) rfl ⟨rfl, Ext.rfl' w⟩
/-- A disk in play: all its blocks are of the call's own. -/
def Ply (w0 w : World) (g : Nat) (d : DS) : Prop := ∃ S, DR w g S d ∧ (∀ k, S k → w0.heap.size ≤ k) ∧ Ext w0 w
theorem Ply.ext {w0 w w' : World} {g : Nat} {d : DS} (h : Ply w0 w g d) (hx : Ext w w') : Ply w0 w' g d := by
  obtain ⟨S, h1, h2, h3⟩ := h
  exact ⟨S, h1.ext hx, h2, h3.trans' hx⟩
theorem Ply.to {w0 w : World} {g : Nat} {d : DS} (h : Ply w0 w g d) : Ext w0 w := by obtain ⟨S, h1, h2, h3⟩ := h; exact h3
theorem Ply.call {w0 w : World} {g : Nat} {d : DS} {f : FuncId} {args : Array Value} (x : Int × DS) (h : Ply w0 w g d) (hc : ∀ S, DR w g S d → Calls Try.prog f args w (MP w g S x)) : Calls Try.prog f args w (fun en w' => en = .returned (.int .i64 x.1) ∧ Ply w0 w' g x.2) := by
  obtain ⟨S, h1, h2, h3⟩ := h
  refine (hc S h1).mono ?_
  rintro en w' ⟨q1, q2, q3⟩
  exact ⟨q1, more S w w', q2, fun k hk => by rcases hk with hk | hk; exact h2 k hk; have := h3.size; omega, q3.ext h3 h2⟩
theorem Ply.use {w0 w : World} {g : Nat} {d : DS} {f : FuncId} {args : Array Value} {R : Ending → World → Prop} (h : Ply w0 w g d) (hc : ∀ S, DR w g S d → Calls Try.prog f args w R) : Calls Try.prog f args w R := by
  obtain ⟨S, h1, h2, h3⟩ := h
  exact hc S h1
theorem newDisk_ply (w0 w : World) (hx0 : Ext w0 w) : Calls Try.prog 15 #[] w (fun en w' => ∃ g, en = .returned (.pointer (some ⟨g, 0, none⟩)) ∧ Ext w w' ∧ Ply w0 w' g dNew) :=
  (newDisk_any w).mono fun en w' ⟨g, h1, h2, h3, h4⟩ => ⟨g, h1, h3, _, h4, fun k hk => by rcases hk with hk | hk; exact hk.elim; have := hx0.size; omega, hx0.trans' h3⟩
set_option maxHeartbeats 8000000 in
theorem awake6_any (w : World) : Calls Try.prog 35 #[] w (RetV w (.bool true)) := by
  refine calls_of_CW Try.func35 rfl (by simp [Try.ntmps35]) ?_
  rw [Try.ntmps35]
  refine go_DskB (k := ?_)
  refine OW_callC Try.func15 (by kernel_rfl) rfl (newDisk_ply w w (Ext.rfl' w)) rfl ?_
  rintro en w1 ⟨g, rfl, hx1, hR1⟩
  refine ⟨_, rfl, ?_⟩
  refine go_DskB (k := ?_)
  refine OW_lit [bv 1, bv 2] und_bytes info_u8 rfl rfl (by simp [bv, Value.oneCell']) (by decide) ?_
  intro w2 g2 hb2 hg2 hx2
  refine go_DskB (k := ?_)
  refine OW_callC Try.func23 (by kernel_rfl) rfl ((hR1.ext hx2).call (0, ⟨true, [], [[1, 2]]⟩) fun S hR => dWrite_any w2 g S dNew hR (by decide) (some ⟨g2, 0, none⟩) 2 [1, 2] (bs_lit [1, 2] _ hb2 rfl) (by decide)) rfl ?_
  rintro en w3 ⟨rfl, hR3⟩
  refine ⟨_, rfl, ?_⟩
  refine go_DskB (k := ?_)
  refine OW_callC Try.func24 (by kernel_rfl) rfl (hR3.call (0, ⟨true, [1, 2], []⟩) fun S hR => dSync_any w3 g S _ hR (by decide) (by decide)) rfl ?_
  rintro en w4 ⟨rfl, hR4⟩
  refine ⟨_, rfl, ?_⟩
  refine go_DskB (k := ?_)
  refine OW_lit [bv 3] und_bytes info_u8 rfl rfl (by simp [bv, Value.oneCell']) (by decide) ?_
  intro w5 g5 hb5 hg5 hx5
  refine go_DskB (k := ?_)
  refine OW_callC Try.func23 (by kernel_rfl) rfl ((hR4.ext hx5).call (0, ⟨true, [1, 2], [[3]]⟩) fun S hR => dWrite_any w5 g S _ hR (by decide) (some ⟨g5, 0, none⟩) 1 [3] (bs_lit [3] _ hb5 rfl) (by decide)) rfl ?_
  rintro en w6 ⟨rfl, hR6⟩
  refine ⟨_, rfl, ?_⟩
  refine go_DskB (k := ?_)
  refine OW_lit [bv 4, bv 5, bv 6] und_bytes info_u8 rfl rfl (by simp [bv, Value.oneCell']) (by decide) ?_
  intro w7 g7 hb7 hg7 hx7
  refine go_DskB (k := ?_)
  refine OW_callC Try.func23 (by kernel_rfl) rfl ((hR6.ext hx7).call (0, ⟨true, [1, 2], [[3], [4, 5, 6]]⟩) fun S hR => dWrite_any w7 g S _ hR (by decide) (some ⟨g7, 0, none⟩) 3 [4, 5, 6] (bs_lit [4, 5, 6] _ hb7 rfl) (by decide)) rfl ?_
  rintro en w8 ⟨rfl, hR8⟩
  refine ⟨_, rfl, ?_⟩
  refine go_DskB (k := ?_)
  refine OW_callC Try.func25 (by kernel_rfl) rfl (hR8.call (0, ⟨false, [1, 2, 3, 4, 5], []⟩) fun S hR => dCrash_any w8 g S _ hR (by decide) (by decide) 1 9 (by unfold I64; omega) (by unfold I64; omega)) rfl ?_
  rintro en w9 ⟨rfl, hR9⟩
  refine ⟨_, rfl, ?_⟩
  refine go_DskB (k := ?_)
  refine OW_callC Try.func28 (by kernel_rfl) rfl (hR9.use fun S hR => dBytes_any w9 g S _ hR (by decide) (by decide)) rfl ?_
  rintro en w10 ⟨A10, c10, rfl, hc10, hf10, hx10⟩
  refine ⟨_, rfl, ?_⟩
  replace hf10 : Bs w10 A10 [1, 2, 3, 4, 5] := hf10.bs
  replace hc10 : 5 ≤ c10 := hc10
  have hR10 := hR9.ext hx10
  refine go_DskB (k := ?_)
  refine OW_lit [bv 1, bv 2, bv 3, bv 4, bv 5] und_bytes info_u8 rfl rfl (by simp [bv, Value.oneCell']) (by decide) ?_
  intro w11 g11 hb11 hg11 hx11
  refine go_DskB (k := ?_)
  refine OW_callV Try.func38 (by kernel_rfl) rfl (same_any w11 A10 (some ⟨g11, 0, none⟩) [1, 2, 3, 4, 5] [1, 2, 3, 4, 5] c10 5 (hf10.ext hx11) (bs_lit [1, 2, 3, 4, 5] _ hb11 rfl) hc10 (by decide)) rfl ?_
  intro w12 hx12
  rw [show (([1, 2, 3, 4, 5] : List UInt8) == [1, 2, 3, 4, 5]) = true from rfl]
  have hR12 := (hR10.ext hx11).ext hx12
  refine go_DskB (k := ?_)
  refine OW_lit [bv 7] und_bytes info_u8 rfl rfl (by simp [bv, Value.oneCell']) (by decide) ?_
  intro w13 g13 hb13 hg13 hx13
  refine go_DskB (k := ?_)
  refine OW_callC Try.func23 (by kernel_rfl) rfl ((hR12.ext hx13).call (60, ⟨false, [1, 2, 3, 4, 5], []⟩) fun S hR => dWrite_any w13 g S _ hR (by decide) (some ⟨g13, 0, none⟩) 1 [7] (bs_lit [7] _ hb13 rfl) (by decide)) rfl ?_
  rintro en w14 ⟨rfl, hR14⟩
  refine ⟨_, rfl, ?_⟩
  refine go_DskB (k := ?_)
  refine OW_callC Try.func26 (by kernel_rfl) rfl (hR14.call (0, ⟨true, [1, 2, 3, 4, 5], []⟩) fun S hR => dStart_any w14 g S _ hR) rfl ?_
  rintro en w15 ⟨rfl, hR15⟩
  refine ⟨_, rfl, ?_⟩
  refine go_DskB (k := ?_)
  refine OW_callC Try.func26 (by kernel_rfl) rfl (hR15.call (2, ⟨true, [1, 2, 3, 4, 5], []⟩) fun S hR => dStart_any w15 g S _ hR) rfl ?_
  rintro en w16 ⟨rfl, hR16⟩
  refine ⟨_, rfl, ?_⟩
  refine go_DskB (k := ?_)
  refine OW_callV Try.func29 (by kernel_rfl) rfl (hR16.use fun S hR => dSynced_any w16 g S _ hR) rfl ?_
  intro w17 hx17
  have hR17 := hR16.ext hx17
  refine go_DskB (k := ?_)
  refine OW_callV Try.func30 (by kernel_rfl) rfl (hR17.use fun S hR => dWrites_any w17 g S _ hR) rfl ?_
  intro w18 hx18
  have hR18 := hR17.ext hx18
  refine go_DskB (k := ?_)
  refine OW_lit [bv 7] und_bytes info_u8 rfl rfl (by simp [bv, Value.oneCell']) (by decide) ?_
  intro w19 g19 hb19 hg19 hx19
  refine go_DskB (k := ?_)
  refine OW_callC Try.func23 (by kernel_rfl) rfl ((hR18.ext hx19).call (0, ⟨true, [1, 2, 3, 4, 5], [[7]]⟩) fun S hR => dWrite_any w19 g S _ hR (by decide) (some ⟨g19, 0, none⟩) 1 [7] (bs_lit [7] _ hb19 rfl) (by decide)) rfl ?_
  rintro en w20 ⟨rfl, hR20⟩
  refine ⟨_, rfl, ?_⟩
  refine go_DskB (k := ?_)
  refine OW_callV Try.func30 (by kernel_rfl) rfl (hR20.use fun S hR => dWrites_any w20 g S _ hR) rfl ?_
  intro w21 hx21
  have hR21 := hR20.ext hx21
  refine go_DskB (k := ?_)
  refine OW_callC Try.func27 (by kernel_rfl) rfl (hR21.call (0, ⟨true, [1, 2], []⟩) fun S hR => dCut_any w21 g S _ hR (by decide) (by decide) 2) rfl ?_
  rintro en w22 ⟨rfl, hR22⟩
  refine ⟨_, rfl, ?_⟩
  refine go_DskB (k := ?_)
  refine OW_callC Try.func28 (by kernel_rfl) rfl (hR22.use fun S hR => dBytes_any w22 g S _ hR (by decide) (by decide)) rfl ?_
  rintro en w23 ⟨A23, c23, rfl, hc23, hf23, hx23⟩
  refine ⟨_, rfl, ?_⟩
  replace hf23 : Bs w23 A23 [1, 2] := hf23.bs
  replace hc23 : 2 ≤ c23 := hc23
  have hR23 := hR22.ext hx23
  refine go_DskB (k := ?_)
  refine OW_lit [bv 1, bv 2] und_bytes info_u8 rfl rfl (by simp [bv, Value.oneCell']) (by decide) ?_
  intro w24 g24 hb24 hg24 hx24
  refine go_DskB (k := ?_)
  refine OW_callV Try.func38 (by kernel_rfl) rfl (same_any w24 A23 (some ⟨g24, 0, none⟩) [1, 2] [1, 2] c23 2 (hf23.ext hx24) (bs_lit [1, 2] _ hb24 rfl) hc23 (by decide)) rfl ?_
  intro w25 hx25
  rw [show (([1, 2] : List UInt8) == [1, 2]) = true from rfl]
  have hR25 := (hR23.ext hx24).ext hx25
  refine go_DskB (k := ?_)
  refine OW_callC Try.func27 (by kernel_rfl) rfl (hR25.call (2, ⟨true, [1, 2], []⟩) fun S hR => dCut_any w25 g S _ hR (by decide) (by decide) 3) rfl ?_
  rintro en w26 ⟨rfl, hR26⟩
  refine ⟨_, rfl, ?_⟩
  refine go_DskB (k := ?_)
  exact bodyE_ret1 rfl (.bool true) rfl ⟨rfl, hR26.to⟩
end Go.Proofs.Ytnfeibbnjdegfaa

/- What lists are worth. -/
namespace Go.Proofs.Ytnfeibbnjdegfaa
open Go Go.RowKit
set_option linter.unusedVariables false
def worth (n : Nat) (vs : List BV) : Nat := (vs.map fun v => v.2.2.length + n).sum
theorem worth_snoc (n : Nat) (vs : List BV) (v : BV) : worth n (vs ++ [v]) = worth n vs + (v.2.2.length + n) := by simp [worth]
theorem worth_take_le (n : Nat) (vs : List BV) (k : Nat) : worth n (vs.take k) ≤ worth n vs := by
  conv => rhs; rw [← List.take_append_drop k vs]
  unfold worth
  rw [List.map_append, List.sum_append]
  omega
theorem worth_each {n : Nat} {vs : List BV} {v : BV} (h : v ∈ vs) : v.2.2.length + n ≤ worth n vs := by
  induction vs with
  | nil => simp at h
  | cons u vs ih =>
    unfold worth
    rw [List.map_cons, List.sum_cons]
    rcases List.mem_cons.1 h with h | h
    · subst h; omega
    · have := ih h; unfold worth at this; omega
theorem worth_len {n : Nat} (vs : List BV) : n * vs.length ≤ worth n vs := by
  induction vs with
  | nil => simp [worth]
  | cons u vs ih =>
    unfold worth at ih ⊢
    rw [List.map_cons, List.sum_cons, List.length_cons, Nat.mul_add]
    omega
/-- The first lists, put together. -/
def flatK (vs : List BV) (k : Nat) : List UInt8 := ((vs.map pay).take k).flatten
theorem flatK_zero (vs : List BV) : flatK vs 0 = [] := by simp [flatK]
theorem flatK_succ {vs : List BV} {k : Nat} (h : k < vs.length) : flatK vs (k + 1) = flatK vs k ++ (vs[k]).2.2 := by
  unfold flatK
  rw [take_succ_get _ _ (by simpa using h), List.flatten_append]
  simp
theorem flatK_all (vs : List BV) : flatK vs vs.length = (vs.map pay).flatten := by unfold flatK; rw [List.take_of_length_le (by simp)]
theorem flatK_le (n : Nat) (vs : List BV) (k : Nat) : (flatK vs k).length ≤ worth n vs := by
  have h1 : ∀ us : List BV, ((us.map pay).flatten).length ≤ worth n us := by
    intro us
    induction us with
    | nil => simp
    | cons u us ih =>
      unfold worth at ih ⊢
      rw [List.map_cons, List.flatten_cons, List.length_append, List.map_cons, List.sum_cons]
      show u.2.2.length + _ ≤ _
      omega
  have := h1 (vs.take k)
  have := worth_take_le n vs k
  unfold flatK
  rw [← List.map_take]
  omega
theorem flatK_worth (n : Nat) (vs : List BV) (k : Nat) : (flatK vs k).length ≤ worth n (vs.take k) := by
  have h1 : ∀ us : List BV, ((us.map pay).flatten).length ≤ worth n us := by
    intro us
    induction us with
    | nil => simp
    | cons u us ih =>
      unfold worth at ih ⊢
      rw [List.map_cons, List.flatten_cons, List.length_append, List.map_cons, List.sum_cons]
      show u.2.2.length + _ ≤ _
      omega
  unfold flatK
  rw [← List.map_take]
  exact h1 _
theorem own_kept_other {w w' : World} {b1 b2 : Nat} {T1 T2 : TypeId} {A B : Option Addr} {n c m d : Nat} {xs ys : List Value} (h1 : w.ownsRow b1 T1 1 (.slice A n c) n xs) (h2 : w.ownsRow b2 T2 1 (.slice B m d) m ys) (hne : T1 ≠ T2) (hg : w.grownBy w' (Value.ownBlock (.slice A n c))) : w'.ownsRow b2 T2 1 (.slice B m d) m ys :=
  own_keeps (S := fun k => ∃ ad, A = some ad ∧ ad.block = k) h2 (Keeps.of_grown hg (fun g hg => by
    cases A with
    | none => cases hg
    | some ad => cases hg; exact ⟨ad, rfl, rfl⟩)) (fun b hb ⟨a, ha, hab⟩ => own_ne_own h1 h2 hne a b ha hb hab)
theorem grown_ext {w0 w w' : World} {A : Option Addr} {n c : Nat} {T : TypeId} {xs : List Value} (h : Ext w0 w) (ho : w.ownsRow w0.heap.size T 1 (.slice A n c) n xs) (hg : w.grownBy w' (Value.ownBlock (.slice A n c))) : Ext w0 w' :=
  (Keeps.of_grown (S := fun k => w0.heap.size ≤ k) hg (fun k hk => (ho.lt k hk).1)).ext h (fun k hk => hk)
end Go.Proofs.Ytnfeibbnjdegfaa
