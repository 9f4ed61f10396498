/- Two disks side by side, the program's and the reference's; the statements' 'one'. -/
import Derived.Test.YtkidofecahaajaaDskB
import Derived.Test.YtkidofecahaajaaDskR
namespace Go.Proofs.Ytkidofecahaajaa
open Go Go.RowKit
set_option linter.unusedVariables false
set_option maxRecDepth 4000
theorem go_DskC {A B : Prop} (h : Held B → A := by
  intro hEnd
  repeat (first | refine OW_fieldB fldo_A0 rfl ?_ | refine OW_fieldB fldo_A1 rfl ?_ | refine OW_fieldB fldo_A2 rfl ?_ | refine OW_fieldB fldo_A3 rfl ?_ | refine OW_eqlTr rfl rfl rfl ?_ | refine OW_moveV (.int _ _) rfl ?_ | refine OW_moveV (.slice _ _ _) rfl ?_ | refine OW_moveV (.bool _) rfl ?_ | refine OW_moveV (.pointer _) rfl ?_ | refine OW_moveV (.string _) rfl ?_ | refine OW_moveV (.agg _) rfl ?_ | refine OW_moveV (.tuple _) rfl ?_ | refine OW_nil ?_ | refine thenE_normal ?_ | refine CW_seq ?_ | refine CW_region (by kernel_rfl) ?_ | refine OW_assignV (.int _ _) rfl ?_ | refine OW_assignV (.slice _ _ _) rfl ?_ | refine OW_assignV (.bool _) rfl ?_ | refine OW_assignV (.pointer _) rfl ?_ | refine OW_assignV (.string _) rfl ?_ | refine OW_assignV (.agg _) rfl ?_ | refine OW_assignV (.tuple _) rfl ?_ | refine OW_addI rfl rfl (by omega) ?_ | refine OW_subI rfl rfl (by omega) ?_ | refine OW_mulI rfl rfl (by omega) ?_ | refine OW_lss rfl rfl ?_ | refine OW_extract rfl rfl ?_ | refine OW_gtr rfl rfl ?_ | refine OW_leq rfl rfl ?_ | refine OW_geq rfl rfl ?_ | refine OW_eql rfl rfl ?_ | refine OW_neq rfl rfl ?_ | refine OW_not rfl ?_ | refine OW_pickT rfl _ rfl ?_ | refine OW_pickF rfl (.bool _) rfl ?_ | refine OW_pickB rfl rfl rfl ?_ | refine OW_move ?_ | refine OW_assign ?_ | refine OW_pass rfl ?_ | refine OW_take rfl ?_ | refine OW_lenS (by first | with_reducible exact und_bytes | with_reducible exact und_bytess) rfl ?_ | refine OW_convInt (by first | with_reducible exact und_u8 | with_reducible exact und_u64 | with_reducible exact und_int | with_reducible exact und_u32) (by first | with_reducible exact und_u8 | with_reducible exact und_u64 | with_reducible exact und_int | with_reducible exact und_u32) rfl ?_ | refine OW_add rfl rfl ?_ | refine OW_sub rfl rfl ?_ | refine OW_mul rfl rfl ?_ | refine OW_min2 rfl rfl ?_ | refine OW_max2 rfl rfl ?_ | refine OW_neg rfl ?_ | refine CW_block ?_ | refine CW_condT rfl ?_ | refine CW_condF rfl ?_ | refine CW_exit ?_ | refine CW_ret ?_ | refine CW_skip ?_ | refine LW_seq ?_ | refine LW_regC ?_ | refine LW_condC ?_ | refine LW_regF ?_ | refine LW_condF ?_ | refine FW_seq ?_ | refine FW_region (by kernel_rfl) ?_ | refine FW_block ?_ | refine FW_condT rfl ?_ | refine FW_condF rfl ?_ | refine FW_exit ?_ | refine FW_ret ?_ | refine FW_skip ?_ | refine LW_ret ?_ | refine LW_skip ?_ | refine thenE_exit ?_ | refine thenE_ret ?_ | refine inBlockE_normal ?_ | refine inBlockE_same ?_ | refine inBlockE_ret ?_ | refine inBlockE_ne (by rfl) ?_ | refine OW_eqlB (by with_reducible exact und_bool) rfl rfl ?_ | refine OW_neqB (by with_reducible exact und_bool) rfl rfl ?_ | refine OW_idxS (by with_reducible exact und_bytes) one_u8 rfl rfl _ rfl (by omega) ?_ | refine OW_idxS (by with_reducible exact und_bytess) one_bytes rfl rfl _ rfl (by omega) ?_ | refine OW_load1 (by first | with_reducible exact one_u8 | with_reducible exact one_bytes) rfl _ (by assumption) ?_ | refine OW_load1 s_int rfl _ (by assumption) ?_ | refine OW_load1 one_bytes rfl _ (by assumption) ?_)
  exact hEnd.out) (k : B) : A := h ⟨k⟩
theorem FreB.put {w : World} {base : Nat} {A : Option Addr} {l : List UInt8} (h : FreB w base A l) {k : Nat} (hk : k < l.length) (x : UInt8) : ∃ g, A = some ⟨g, 0, none⟩ ∧ base ≤ g ∧ w.cell? ⟨g, k, none⟩ = some (bv l[k]) ∧ w.frozen? ⟨g, k, none⟩ = false ∧ FreB (w.setCell ⟨g, k, none⟩ (bv x)) base A (l.set k x) ∧ w.grownBy (w.setCell ⟨g, k, none⟩ (bv x)) (some g) := by
  obtain ⟨ad, rfl, hc⟩ := h.bs.at_ hk
  have hl : l ≠ [] := fun hh => by rw [hh] at hk; simp at hk
  obtain ⟨g, rfl, hb, hlt⟩ := h.at_ ad rfl hl
  have hf := h.frz _ rfl k hk
  rw [add0] at hc hf
  refine ⟨g, rfl, hb, hc, hf, ⟨fun j u hu => ?_, fun ad ha _ => ?_, fun ad ha i hi => ?_⟩, only_set w g k (bv x)⟩
  · refine ⟨_, rfl, ?_⟩
    rw [add0]
    have hj : j < l.length := by have := (List.getElem?_eq_some_iff.1 hu).1; simpa using this
    by_cases hjk : j = k
    · subst hjk
      rw [World.cell?_setCell_same w _ _ hc, ← hu, List.getElem?_map, List.getElem?_set_self hj]
      rfl
    · rw [World.cell?_setCell_other w _ _ _ (by intro hh; injection hh with _ hh; exact hjk hh.symm)]
      obtain ⟨ad, ha, hcj⟩ := h.bs.at_ hj
      cases ha
      rw [add0] at hcj
      rw [hcj, ← hu, List.getElem?_map, List.getElem?_set_ne (Ne.symm hjk), List.getElem?_eq_getElem hj]
      rfl
  · cases ha
    exact ⟨g, rfl, hb, by rw [World.size_setCell]; exact hlt⟩
  · rw [World.frozen?_setCell]
    exact h.frz ad ha i (by rw [List.length_set] at hi; exact hi)
/-- Two disks in play. -/
def TwoD (w0 w : World) (g g2 : Nat) (d e : DS) : Prop := ∃ S S2, DR w g S d ∧ ER w g2 S2 e ∧ (∀ k, S k → ¬ S2 k) ∧ (∀ k, S k → w0.heap.size ≤ k) ∧ (∀ k, S2 k → w0.heap.size ≤ k) ∧ Ext w0 w
section
variable {w0 w w' : World} {g g2 : Nat} {d e : DS} {f : FuncId} {args : Array Value}
theorem TwoD.ext (h : TwoD w0 w g g2 d e) (hx : Ext w w') : TwoD w0 w' g g2 d e := by
  obtain ⟨S, S2, h1, h2, h3, h4, h5, h6⟩ := h
  exact ⟨S, S2, h1.ext hx, h2.ext hx, h3, h4, h5, h6.trans' hx⟩
theorem TwoD.to (h : TwoD w0 w g g2 d e) : Ext w0 w := by obtain ⟨S, S2, h1, h2, h3, h4, h5, h6⟩ := h; exact h6
theorem TwoD.mp {S S2 : Nat → Prop} {x : Int × DS} {en : Ending} (h1 : DR w g S d) (h2 : ER w g2 S2 e) (h3 : ∀ k, S k → ¬ S2 k) (h4 : ∀ k, S k → w0.heap.size ≤ k) (h5 : ∀ k, S2 k → w0.heap.size ≤ k) (h6 : Ext w0 w) (hm : MP w g S x en w') :
    ER w' g2 S2 e ∧ (∀ k, more S w w' k → ¬ S2 k) ∧ (∀ k, more S w w' k → w0.heap.size ≤ k) ∧ Ext w0 w' := by
  refine ⟨h2.keeps hm.2.2 (fun k hk hs => h3 k hs hk), fun k hk hk2 => ?_, fun k hk => ?_, hm.2.2.ext h6 h4⟩
  · rcases hk with hk | hk
    · exact h3 k hk hk2
    · have := h2.bd k hk2; omega
  · rcases hk with hk | hk
    · exact h4 k hk
    · have := h6.size; omega
theorem TwoD.ep {S S2 : Nat → Prop} {x : Int × DS} {en : Ending} (h1 : DR w g S d) (h2 : ER w g2 S2 e) (h3 : ∀ k, S k → ¬ S2 k) (h4 : ∀ k, S k → w0.heap.size ≤ k) (h5 : ∀ k, S2 k → w0.heap.size ≤ k) (h6 : Ext w0 w) (hm : EP w g2 S2 x en w') :
    DR w' g S d ∧ (∀ k, S k → ¬ more S2 w w' k) ∧ (∀ k, more S2 w w' k → w0.heap.size ≤ k) ∧ Ext w0 w' := by
  refine ⟨h1.keeps hm.2.2 h3, fun k hk hk2 => ?_, fun k hk => ?_, hm.2.2.ext h6 h5⟩
  · rcases hk2 with hk2 | hk2
    · exact h3 k hk hk2
    · have := h1.bd k hk; omega
  · rcases hk with hk | hk
    · exact h5 k hk
    · have := h6.size; omega
theorem TwoD.prog (x : Int × DS) (h : TwoD w0 w g g2 d e) (hc : ∀ S, DR w g S d → Calls Try.prog f args w (MP w g S x)) : Calls Try.prog f args w (fun en w' => en = .returned (.int .i64 x.1) ∧ TwoD w0 w' g g2 x.2 e) := by
  obtain ⟨S, S2, h1, h2, h3, h4, h5, h6⟩ := h
  refine (hc S h1).mono ?_
  intro en w' hm
  obtain ⟨q1, q2, q3, q4⟩ := TwoD.mp h1 h2 h3 h4 h5 h6 hm
  exact ⟨hm.1, more S w w', S2, hm.2.1, q1, q2, q3, h5, q4⟩
theorem TwoD.ref (x : Int × DS) (h : TwoD w0 w g g2 d e) (hc : ∀ S, ER w g2 S e → Calls Try.prog f args w (EP w g2 S x)) : Calls Try.prog f args w (fun en w' => en = .returned (.int .i64 x.1) ∧ TwoD w0 w' g g2 d x.2) := by
  obtain ⟨S, S2, h1, h2, h3, h4, h5, h6⟩ := h
  refine (hc S2 h2).mono ?_
  intro en w' hm
  obtain ⟨q1, q2, q3, q4⟩ := TwoD.ep h1 h2 h3 h4 h5 h6 hm
  exact ⟨hm.1, S, more S2 w w', q1, hm.2.1, q2, h4, q3, q4⟩
theorem TwoD.useD {R : Ending → World → Prop} (h : TwoD w0 w g g2 d e) (hc : ∀ S, DR w g S d → Calls Try.prog f args w R) : Calls Try.prog f args w R := by
  obtain ⟨S, S2, h1, _⟩ := h
  exact hc S h1
theorem TwoD.cellE (h : TwoD w0 w g g2 d e) : ∃ A c E cE, Blk w g2 45 #[.slice A e.all.length c, .int .i64 e.s.length, .slice E e.ws.length cE, .bool (!e.up)] ∧ Bs w A e.all ∧ e.all.length ≤ c := by
  obtain ⟨S, S2, h1, h2, _⟩ := h
  obtain ⟨A, c, E, cE, q1, ⟨q2, q3, _⟩, _⟩ := h2.at_
  exact ⟨A, c, E, cE, q1, q2, q3⟩
/-- Nothing but other blocks turned. -/
theorem TwoD.keeps {X : Nat → Prop} (h : TwoD w0 w g g2 d e) (hk : Keeps w w' X) (hX : ∀ S S2, DR w g S d → ER w g2 S2 e → ∀ k, S k ∨ S2 k → ¬ X k) (hx : Ext w0 w') : TwoD w0 w' g g2 d e := by
  obtain ⟨S, S2, h1, h2, h3, h4, h5, h6⟩ := h
  exact ⟨S, S2, h1.keeps hk (fun k hs => hX S S2 h1 h2 k (.inl hs)), h2.keeps hk (fun k hs => hX S S2 h1 h2 k (.inr hs)), h3, h4, h5, hx⟩
end
section
variable {P : Program} {ops : Array Oper} {Q : Exit → (Nat → Value) → World → Prop} {rest : List Oper} {e : Nat → Value} {w : World} {d : Tmp} {ty : TypeId} {pos : String} {aft : Array Edge}
theorem OW_eqlTr {x y : Operand} {t t' : TypeId} {k : IntKind} {a b : Int} (hx : ev e x = .int k a) (hy : ev e y = .int k b) (hab : a = b) (h : OW P ops Q rest (upd e d (.bool true)) w) : OW P ops Q (⟨some d, .binOp .eql t x y t', ty, pos, aft, none⟩ :: rest) e w := by
  refine OW_eql hx hy ?_
  rw [show (a == b) = true by simp [hab]]
  exact h
end
/-- What 'one' comes to. -/
def One6 (w0 : World) (g g2 : Nat) (d : DS) : Ending → World → Prop := fun en w' => en = .returned (.bool true) ∧ TwoD w0 w' g g2 d d
/-- Between the program's call and the reference's. -/
structure Mid6 (w0 w : World) (g g2 g3 : Nat) (S2 : Nat → Prop) (cs : Array Value) (d e : DS) : Prop where
  at_ : ∃ S, DR w g S d ∧ ER w g2 S2 e ∧ (∀ k, S k → ¬ S2 k) ∧ (∀ k, S k → w0.heap.size ≤ k)
  lo2 : ∀ k, S2 k → w0.heap.size ≤ k
  ext : Ext w0 w
  blk : Blk w g3 24 cs
  n3 : ¬ S2 g3
theorem Mid6.fin {w0 w w' : World} {g g2 g3 : Nat} {S2 : Nat → Prop} {cs : Array Value} {d e : DS} {x : Int × DS} {en : Ending} (h : Mid6 w0 w g g2 g3 S2 cs d e) (hm : EP w g2 S2 x en w') : TwoD w0 w' g g2 d x.2 := by
  obtain ⟨S, h1, h2, h3, h4⟩ := h.at_
  obtain ⟨q1, q2, q3, q4⟩ := TwoD.ep h1 h2 h3 h4 h.lo2 h.ext hm
  exact ⟨S, more S2 w w', q1, hm.2.1, q2, h4, q3, q4⟩
set_option maxHeartbeats 8000000 in
theorem one6_any (w0 w : World) (g g2 : Nat) (d : DS) (h : TwoD w0 w g g2 d d) (f : AD) (A : Option Addr) (c : Nat) (hok : AOk w0 f A c) (hl : d.all.length + f.B.length ≤ 100000) (hn : d.ws.length ≤ 100000) :
    Calls Try.prog 25 #[.pointer (some ⟨g, 0, none⟩), .pointer (some ⟨g2, 0, none⟩), .agg (acells f (.slice A f.B.length c)).toArray] w (One6 w0 g g2 (dAct d f).2) := by
  obtain ⟨S, S2, h1, h2, h3, h4, h5, h6⟩ := h
  have bd1 := h1.bd
  have bd2 := h2.bd
  refine calls_of_CW Try.func25 rfl (by simp [Try.ntmps25]) ?_
  rw [Try.ntmps25]
  refine go_DskC (k := ?_)
  refine OW_box _ rfl ?_
  intro w1 g3 hb1 hg3 hl3 hx
  have hb1 : Blk w1 g3 24 (acells f (.slice A f.B.length c)).toArray := hb1
  have hx01 := h6.trans' hx
  have hR1 := h1.ext hx
  have hE1 := h2.ext hx
  have n1 : ¬ S g3 := fun hh => by have := bd1 _ hh; omega
  have n2 : ¬ S2 g3 := fun hh => by have := bd2 _ hh; omega
  have mid : ∀ {w2 w3 : World} {x : Int × DS} {en : Ending}, Ext w1 w2 → MP w2 g S x en w3 → Mid6 w0 w3 g g2 g3 S2 (acells f (.slice A f.B.length c)).toArray x.2 d := fun {w2 w3 x en} hx2 hm => by
    obtain ⟨q1, q2, q3, q4⟩ := TwoD.mp (hR1.ext hx2) (hE1.ext hx2) h3 h4 h5 (hx01.trans' hx2) hm
    exact ⟨⟨_, hm.2.1, q1, q2, q3⟩, h5, q4, (hb1.ext hx2).keeps hm.2.2 n1, n2⟩
  have two1 : TwoD w0 w1 g g2 d d := ⟨S, S2, hR1, hE1, h3, h4, h5, hx01⟩
  have m0 : w1.cell? ⟨g3, 0, none⟩ = some (.int .i64 f.kind) := hb1.cell 0
  have m1 : w1.cell? ⟨g3, 1, none⟩ = some (.int .i64 f.n) := hb1.cell 1
  have m2 : w1.cell? ⟨g3, 2, none⟩ = some (.int .i64 f.m) := hb1.cell 2
  have m3 : w1.cell? ⟨g3, 3, none⟩ = some (.slice A f.B.length c) := hb1.cell 3
  clear h1 h2
  refine go_DskC (k := ?_)
  refine CW_meet (fun e' w' => e' 0 = .pointer (some ⟨g, 0, none⟩) ∧ e' 1 = .pointer (some ⟨g2, 0, none⟩) ∧ e' 5 = .pointer (some ⟨g3, 0, none⟩) ∧ e' 16 = .int .i64 f.kind ∧ e' 17 = .bool (decide (f.kind = 0 ∨ f.kind = 1 ∨ f.kind = 2)) ∧ w' = w1) ?_ ?_
  · refine CW_cond _ rfl (fun hh => ?_) (fun hh => ?_)
    · have h0 : f.kind = 0 := by simpa using hh
      rw [hh]
      refine go_DskC (k := ?_)
      exact ⟨rfl, rfl, rfl, rfl, rfl, by rw [decide_eq_true (show f.kind = 0 ∨ f.kind = 1 ∨ f.kind = 2 from .inl h0)]; rfl, rfl⟩
    have h0 : ¬ f.kind = 0 := by simpa using hh
    refine go_DskC (k := ?_)
    refine CW_cond _ rfl (fun hh => ?_) (fun hh => ?_)
    · have h1 : f.kind = 1 := by simpa using hh
      rw [hh]
      refine go_DskC (k := ?_)
      exact ⟨rfl, rfl, rfl, rfl, rfl, by rw [decide_eq_true (show f.kind = 0 ∨ f.kind = 1 ∨ f.kind = 2 from .inr (.inl h1))]; rfl, rfl⟩
    have h1 : ¬ f.kind = 1 := by simpa using hh
    refine go_DskC (k := ?_)
    refine ⟨rfl, rfl, rfl, rfl, rfl, ?_, rfl⟩
    show Value.bool _ = _
    by_cases h2 : f.kind = 2 <;> simp [h0, h1, h2]
  rintro e2 w2 ⟨q0, q1, q5, q16, q17, rfl⟩
  rw [upd_self q0, upd_self q1, upd_self q5, upd_self q16, upd_self q17]
  refine go_DskC (k := ?_)
  refine CW_cond _ rfl (fun hh => ?_) (fun hh => ?_)
  · have hk : f.kind = 0 ∨ f.kind = 1 ∨ f.kind = 2 := of_decide_eq_true hh
    rw [show dAct d f = dWrite d f.B by unfold dAct; rw [if_pos hk]]
    clear hh
    refine go_DskC (k := ?_)
    refine OW_callBs Try.func53 (by kernel_rfl) rfl (refCopy_any _ A f.B c (hok.bs.ext hx01) (by omega)) rfl ?_
    intro w3 X cX hX
    have hbX := own_block hX.own
    have hs1 := hx.size
    have oX : ∀ ad, X = some ad → ¬ S ad.block ∧ ¬ S2 ad.block := fun ad ha => ⟨fun hh => by have := bd1 _ hh; have := (hbX ad ha).1; omega, fun hh => by have := bd2 _ hh; have := (hbX ad ha).1; omega⟩
    refine go_DskC (k := ?_)
    refine OW_callC Try.func14 (by kernel_rfl) rfl (dWrite_any w3 g S d (hR1.ext hX.ext) (by omega) X cX f.B hX.bs (by omega)) rfl ?_
    intro en w4 hm
    obtain ⟨p1, p2, p3, p4⟩ := TwoD.mp (hR1.ext hX.ext) (hE1.ext hX.ext) h3 h4 h5 (hx01.trans' hX.ext) hm
    have hR4 := hm.2.1
    have oX4 := own_keeps hX.own hm.2.2 (fun ad ha => (oX ad ha).1)
    have hb4 := (hb1.ext hX.ext).keeps hm.2.2 n1
    have oS4 : ∀ ad, X = some ad → ¬ more S w3 w4 ad.block := fun ad ha hh => by
      rcases hh with hh | hh
      · exact (oX ad ha).1 hh
      · have := (hbX ad ha).2; omega
    have s34 := hm.2.2.size
    refine ⟨_, hm.1, ?_⟩
    have m34 : w4.cell? ⟨g3, 3, none⟩ = some (.slice A f.B.length c) := hb4.cell 3
    generalize more S w3 w4 = Sa at *
    clear hm
    refine go_DskC (k := ?_)
    refine OW_callC Try.func54 (by kernel_rfl) rfl (eWrite_any w4 g2 S2 d p1 A c f.B (hok.bs.ext p4) (by omega) (by omega)) rfl ?_
    intro en w5 hm
    obtain ⟨r1, r2, r3, r4⟩ := TwoD.ep hR4 p1 p2 p3 h5 p4 hm
    have hE5 := hm.2.1
    have oX5 := own_keeps oX4 hm.2.2 (fun ad ha => (oX ad ha).2)
    have hb5 := hb4.keeps hm.2.2 n2
    have oS5 : ∀ ad, X = some ad → ¬ more S2 w4 w5 ad.block := fun ad ha hh => by
      rcases hh with hh | hh
      · exact (oX ad ha).2 hh
      · have := (hbX ad ha).2; omega
    have m35 : w5.cell? ⟨g3, 3, none⟩ = some (.slice A f.B.length c) := hb5.cell 3
    refine ⟨_, hm.1, ?_⟩
    generalize more S2 w4 w5 = Sb at *
    clear hm hb4 p1 hR4 m34 hb5
    refine go_DskC (k := ?_)
    refine OW_callV Try.func24 (by kernel_rfl) rfl (refSame_any w5 X A f.B f.B cX c (own_rd oX5) (hok.bs.ext r4) (by omega)) rfl ?_
    intro w6 hx6
    rw [beq_self_eq_true]
    have oX6 := own_ext oX5 hx6
    have hx06 := r4.trans' hx6
    have hs2 := hx01.size
    refine go_DskC (k := ?_)
    refine CW_loop (fun e' w' => ∃ (k : Nat) (zs : List UInt8), k ≤ f.B.length ∧ zs.length = f.B.length ∧ e' 7 = .slice X f.B.length cX ∧ e' 10 = .int .i64 k ∧ e' 9 = .bool true ∧ w'.ownsRow w2.heap.size 5 1 (.slice X f.B.length cX) f.B.length (zs.map bv) ∧ w6.grownBy w' (Value.ownBlock (.slice X f.B.length cX))) (fun e' _ => f.B.length - (intOf (e' 10)).toNat) ?_ ?_
    · exact ⟨0, f.B, Nat.zero_le _, rfl, rfl, rfl, rfl, oX6, World.grownBy.refl _ _⟩
    rintro ea wa ⟨ka, za, hak, haz, has, hai, qa_9, hao, hag⟩
    rw [upd_self has, upd_self hai, upd_self qa_9]
    refine go_DskC (k := ?_)
    refine CW_cond _ rfl (fun hh => ?_) (fun _ => ?_)
    · have hlt : ka < f.B.length := by simpa using hh
      obtain ⟨g, cur, hA, hg, _⟩ := own_blk hao (by omega)
      subst hA
      have hcell := inc_cell hao haz hlt
      have hst := inc_step hao haz hlt (za[ka]'(by omega) + 1)
      refine go_DskC (k := ?_)
      rw [inc_u8]
      refine go_DskC (k := ?_)
      rw [add0] at hcell ⊢
      refine OW_store1 one_u8 rfl (bv (za[ka]'(by omega) + 1)) (bv (za[ka]'(by omega))) rfl rfl hcell (hao.frozenAt ka) ?_
      refine go_DskC (k := ?_)
      refine ⟨⟨ka + 1, _, by omega, by simp [haz], rfl, rfl, rfl, hst.1, grown_trans' hag hst.2⟩, ?_⟩
      show f.B.length - ((ka : Int) + 1).toNat < f.B.length - (ka : Int).toNat
      omega
    refine go_DskC (k := ?_)
    have hKa : Keeps w6 wa (fun k => ∃ ad, X = some ad ∧ ad.block = k) := Keeps.of_grown hag (fun g hg => by
      cases X with
      | none => cases hg
      | some ad => cases hg; exact ⟨ad, rfl, rfl⟩)
    exact bodyE_ret1 rfl (.bool true) rfl ⟨rfl, Sa, Sb, (r1.ext hx6).keeps hKa (fun k hk ⟨ad, ha, hh⟩ => oS4 ad ha (hh ▸ hk)), (hE5.ext hx6).keeps hKa (fun k hk ⟨ad, ha, hh⟩ => oS5 ad ha (hh ▸ hk)), r2, p3, r3, hKa.ext hx06 (fun k ⟨ad, ha, hh⟩ => by have := (hbX ad ha).1; omega)⟩
  have k0 : ¬ (f.kind = 0 ∨ f.kind = 1 ∨ f.kind = 2) := of_decide_eq_false hh
  clear hh
  refine go_DskC (k := ?_)
  refine CW_cond _ rfl (fun hh => ?_) (fun hh => ?_)
  · have hk : f.kind = 3 := by simpa using hh
    rw [show dAct d f = dSync d by unfold dAct; rw [if_neg k0, if_pos hk]]
    refine go_DskC (k := ?_)
    refine OW_callC Try.func15 (by kernel_rfl) rfl (dSync_any w2 g S d hR1 (by omega) (by omega)) rfl ?_
    intro en w4 hm
    have hM := mid (Ext.rfl' _) hm
    refine ⟨_, hm.1, ?_⟩
    have hE4 : ER w4 g2 S2 d := by obtain ⟨_, _, q, _⟩ := hM.at_; exact q
    clear hm
    refine go_DskC (k := ?_)
    refine OW_callC Try.func55 (by kernel_rfl) rfl (eSync_any w4 g2 S2 d hE4) rfl ?_
    intro en w5 hm
    have hF := hM.fin hm
    refine ⟨_, hm.1, ?_⟩
    refine go_DskC (k := ?_)
    exact bodyE_ret1 rfl (.bool true) rfl ⟨rfl, hF⟩
  have k3 : ¬ f.kind = 3 := by simpa using hh
  clear hh
  refine go_DskC (k := ?_)
  refine CW_cond _ rfl (fun hh => ?_) (fun hh => ?_)
  · have hk : f.kind = 4 := by simpa using hh
    rw [show dAct d f = dCrash d f.n f.m by unfold dAct; rw [if_neg k0, if_neg k3, if_pos hk]]
    refine go_DskC (k := ?_)
    refine OW_callC Try.func16 (by kernel_rfl) rfl (dCrash_any w2 g S d hR1 (by omega) (by omega) f.n f.m hok.n hok.m) rfl ?_
    intro en w4 hm
    have hM := mid (Ext.rfl' _) hm
    refine ⟨_, hm.1, ?_⟩
    have hE4 : ER w4 g2 S2 d := by obtain ⟨_, _, q, _⟩ := hM.at_; exact q
    have m14 : w4.cell? ⟨g3, 1, none⟩ = some (.int .i64 f.n) := hM.blk.cell 1
    have m24 : w4.cell? ⟨g3, 2, none⟩ = some (.int .i64 f.m) := hM.blk.cell 2
    clear hm
    refine go_DskC (k := ?_)
    refine OW_callC Try.func56 (by kernel_rfl) rfl (eCrash_any w4 g2 S2 d hE4 f.n f.m hok.n hok.m (by omega) (by omega)) rfl ?_
    intro en w5 hm
    have hF := hM.fin hm
    refine ⟨_, hm.1, ?_⟩
    refine go_DskC (k := ?_)
    exact bodyE_ret1 rfl (.bool true) rfl ⟨rfl, hF⟩
  have k4 : ¬ f.kind = 4 := by simpa using hh
  clear hh
  refine go_DskC (k := ?_)
  refine CW_meet (fun e' w' => e' 0 = .pointer (some ⟨g, 0, none⟩) ∧ e' 1 = .pointer (some ⟨g2, 0, none⟩) ∧ e' 5 = .pointer (some ⟨g3, 0, none⟩) ∧ e' 16 = .int .i64 f.kind ∧ e' 76 = .bool (decide (f.kind = 5 ∨ f.kind = 6)) ∧ w' = w2) ?_ ?_
  · refine CW_cond _ rfl (fun hh => ?_) (fun hh => ?_)
    · have h5 : f.kind = 5 := by simpa using hh
      rw [hh]
      refine go_DskC (k := ?_)
      exact ⟨rfl, rfl, rfl, rfl, rfl, by rw [decide_eq_true (show f.kind = 5 ∨ f.kind = 6 from .inl h5)]; rfl, rfl⟩
    have h5 : ¬ f.kind = 5 := by simpa using hh
    refine go_DskC (k := ?_)
    refine ⟨rfl, rfl, rfl, rfl, rfl, ?_, rfl⟩
    show Value.bool _ = _
    by_cases h6 : f.kind = 6 <;> simp [h5, h6]
  rintro e3 w3 ⟨q0, q1, q5, q16, q76, rfl⟩
  rw [upd_self q0, upd_self q1, upd_self q5, upd_self q16, upd_self q76]
  refine go_DskC (k := ?_)
  refine CW_cond _ rfl (fun hh => ?_) (fun hh => ?_)
  · have hk : f.kind = 5 ∨ f.kind = 6 := of_decide_eq_true hh
    rw [show dAct d f = dStart d by unfold dAct; rw [if_neg k0, if_neg k3, if_neg k4, if_pos hk]]
    refine go_DskC (k := ?_)
    refine OW_callC Try.func17 (by kernel_rfl) rfl (dStart_any w3 g S d hR1) rfl ?_
    intro en w4 hm
    have hM := mid (Ext.rfl' _) hm
    refine ⟨_, hm.1, ?_⟩
    have hE4 : ER w4 g2 S2 d := by obtain ⟨_, _, q, _⟩ := hM.at_; exact q
    clear hm
    refine go_DskC (k := ?_)
    refine OW_callC Try.func57 (by kernel_rfl) rfl (eStart_any w4 g2 S2 d hE4) rfl ?_
    intro en w5 hm
    have hF := hM.fin hm
    refine ⟨_, hm.1, ?_⟩
    refine go_DskC (k := ?_)
    exact bodyE_ret1 rfl (.bool true) rfl ⟨rfl, hF⟩
  have k5 : ¬ (f.kind = 5 ∨ f.kind = 6) := of_decide_eq_false hh
  clear hh
  refine go_DskC (k := ?_)
  refine CW_cond _ rfl (fun hh => ?_) (fun hh => ?_)
  · have hk : f.kind = 7 := by simpa using hh
    rw [show dAct d f = dCut d f.n by unfold dAct; rw [if_neg k0, if_neg k3, if_neg k4, if_neg k5, if_pos hk]]
    refine go_DskC (k := ?_)
    refine OW_callC Try.func18 (by kernel_rfl) rfl (dCut_any w3 g S d hR1 (by omega) (by omega) f.n) rfl ?_
    intro en w4 hm
    have hM := mid (Ext.rfl' _) hm
    refine ⟨_, hm.1, ?_⟩
    have hE4 : ER w4 g2 S2 d := by obtain ⟨_, _, q, _⟩ := hM.at_; exact q
    have m14 : w4.cell? ⟨g3, 1, none⟩ = some (.int .i64 f.n) := hM.blk.cell 1
    clear hm
    refine go_DskC (k := ?_)
    refine OW_callC Try.func58 (by kernel_rfl) rfl (eCut_any w4 g2 S2 d hE4 f.n (by omega)) rfl ?_
    intro en w5 hm
    have hF := hM.fin hm
    refine ⟨_, hm.1, ?_⟩
    refine go_DskC (k := ?_)
    exact bodyE_ret1 rfl (.bool true) rfl ⟨rfl, hF⟩
  have k7 : ¬ f.kind = 7 := by simpa using hh
  rw [show dAct d f = (0, d) by unfold dAct; rw [if_neg k0, if_neg k3, if_neg k4, if_neg k5, if_neg k7]]
  refine go_DskC (k := ?_)
  exact bodyE_ret1 rfl (.bool true) rfl ⟨rfl, two1⟩
end Go.Proofs.Ytkidofecahaajaa
