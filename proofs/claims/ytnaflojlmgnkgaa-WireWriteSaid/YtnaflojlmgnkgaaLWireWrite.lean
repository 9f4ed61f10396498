/- WireWrite: any fields that are written come to the form that the chapter says; what is handed in, and told, is the caller's own. No condition. -/
import Derived.Test.YtnaflojlmgnkgaaForm
namespace Go.Proofs.Ytnaflojlmgnkgaa.lawWireWrite
open Go.ChangeShapes Go.WideShapes Go.ChangeAt Go.RowKit
set_option linter.unusedVariables false
set_option maxRecDepth 4000
theorem go_LWireWrite {A B : Prop} (h : Held B → A := by
  intro hEnd
  repeat (first | refine OW_moveV (.int _ _) rfl ?_ | refine OW_moveV (.slice _ _ _) rfl ?_ | refine OW_moveV (.bool _) rfl ?_ | refine OW_moveV (.pointer _) rfl ?_ | refine OW_moveV (.string _) rfl ?_ | refine OW_moveV (.agg _) rfl ?_ | refine OW_moveV (.tuple _) rfl ?_ | refine OW_nil ?_ | refine thenE_normal ?_ | refine CW_seq ?_ | refine CW_region (by kernel_rfl) ?_ | refine OW_assignV (.int _ _) rfl ?_ | refine OW_assignV (.slice _ _ _) rfl ?_ | refine OW_assignV (.bool _) rfl ?_ | refine OW_assignV (.pointer _) rfl ?_ | refine OW_assignV (.string _) rfl ?_ | refine OW_assignV (.agg _) rfl ?_ | refine OW_assignV (.tuple _) rfl ?_ | refine OW_addI rfl rfl (by omega) ?_ | refine OW_subI rfl rfl (by omega) ?_ | refine OW_mulI rfl rfl (by omega) ?_ | refine OW_lss rfl rfl ?_ | refine OW_extract rfl rfl ?_ | refine OW_gtr rfl rfl ?_ | refine OW_leq rfl rfl ?_ | refine OW_geq rfl rfl ?_ | refine OW_eql rfl rfl ?_ | refine OW_neq rfl rfl ?_ | refine OW_not rfl ?_ | refine OW_pickT rfl _ rfl ?_ | refine OW_pickF rfl (.bool _) rfl ?_ | refine OW_pickB rfl rfl rfl ?_ | refine OW_move ?_ | refine OW_assign ?_ | refine OW_pass rfl ?_ | refine OW_take rfl ?_ | refine OW_lenS (by first | with_reducible exact und_bytes | with_reducible exact und_bytess) rfl ?_ | refine OW_convInt (by first | with_reducible exact und_u8 | with_reducible exact und_u64 | with_reducible exact und_int | with_reducible exact und_u32) (by first | with_reducible exact und_u8 | with_reducible exact und_u64 | with_reducible exact und_int | with_reducible exact und_u32) rfl ?_ | refine OW_add rfl rfl ?_ | refine OW_sub rfl rfl ?_ | refine OW_mul rfl rfl ?_ | refine OW_min2 rfl rfl ?_ | refine OW_max2 rfl rfl ?_ | refine OW_neg rfl ?_ | refine CW_block ?_ | refine CW_condT rfl ?_ | refine CW_condF rfl ?_ | refine CW_exit ?_ | refine CW_ret ?_ | refine CW_skip ?_ | refine thenE_exit ?_ | refine thenE_ret ?_ | refine inBlockE_normal ?_ | refine inBlockE_same ?_ | refine inBlockE_ret ?_ | refine inBlockE_ne (by rfl) ?_ | refine OW_eqlB (by with_reducible exact und_bool) rfl rfl ?_ | refine OW_neqB (by with_reducible exact und_bool) rfl rfl ?_ | refine OW_idxS (by with_reducible exact und_bytes) one_u8 rfl rfl _ rfl (by omega) ?_ | refine OW_idxS (by with_reducible exact und_bytess) one_bytes rfl rfl _ rfl (by omega) ?_ | refine OW_load1 (by first | with_reducible exact one_u8 | with_reducible exact one_bytes) rfl _ (by assumption) ?_ | refine OW_lenS (by with_reducible exact und_Fs) rfl ?_ | refine OW_idxN und_Fs el_F rfl rfl _ rfl (by omega) ?_ | refine OW_fieldF fld_F2 rfl ?_)
  exact hEnd.out) (k : B) : A := h ⟨k⟩
theorem addAll_ok : ∀ (ps : List (List UInt8)) (z : List UInt8), z.length + ps.flatten.length ≤ 65536 → addAll (false, z) ps = (false, z ++ ps.flatten)
  | [], z, _ => by simp [addAll]
  | p :: ps, z, h => by
    simp only [List.flatten_cons, List.length_append] at h
    have h1 : addStep (false, z) p = (false, z ++ p) := by
      unfold addStep
      rw [if_neg]
      simp only [Bool.false_or, decide_eq_true_eq]
      omega
    have h2 := addAll_ok ps (z ++ p) (by rw [List.length_append]; omega)
    simp only [addAll, List.foldl_cons] at h2 ⊢
    rw [h1, h2]
    simp
set_option maxHeartbeats 8000000 in
theorem walk (w : World) (v0 : Value) (l : List FD) (h0 : kFields.R w [v0] l) : Calls Try.prog 3 #[v0] w (RetV w (.bool true)) := by
  obtain ⟨A1, c1, hv, hc1, hc2, hl⟩ := h0
  have hl : FS w A1 l := hl
  injection hv with hv
  subst hv
  refine calls_of_CW Try.func3 rfl (by simp [Try.ntmps3]) ?_
  rw [Try.ntmps3]
  refine go_LWireWrite (k := ?_)
  refine OW_callV Try.func11 (by kernel_rfl) rfl (great_any w A1 c1 l hl (by omega)) rfl ?_
  intro w1 hx1
  refine go_LWireWrite (k := ?_)
  refine CW_cond _ rfl (fun hh => ?_) (fun hh => ?_)
  · refine go_LWireWrite (k := ?_)
    exact bodyE_ret1 rfl (.bool true) rfl ⟨rfl, hx1⟩
  have hg : gsum l ≤ 4000 := by have := of_decide_eq_false hh; omega
  clear hh
  have hlen := gsum_len l
  refine go_LWireWrite (k := ?_)
  refine OW_callC Try.func12 (by kernel_rfl) rfl (newWriter_any _) rfl ?_
  rintro en w2 ⟨g, rfl, hg2, hx2, hw2⟩
  refine ⟨_, rfl, ?_⟩
  have hx02 := hx1.trans' hx2
  refine go_LWireWrite (k := ?_)
  refine CW_meetB (fun e' w' => e' 0 = .slice A1 l.length c1 ∧ e' 3 = .pointer (some ⟨g, 0, none⟩) ∧ Ext w w' ∧ ∃ S, WR w' g S (false, formL l) ∧ ∀ j, S j → w.heap.size ≤ j) ?_ ?_
  · refine go_LWireWrite (k := ?_)
    refine CW_loop (fun e' w' => ∃ k : Nat, k ≤ l.length ∧ e' 0 = .slice A1 l.length c1 ∧ e' 3 = .pointer (some ⟨g, 0, none⟩) ∧ e' 4 = .int .i64 k ∧ Ext w w' ∧ ∃ S, WR w' g S (false, formL (l.take k)) ∧ ∀ j, S j → w.heap.size ≤ j) (fun e' _ => l.length - (intOf (e' 4)).toNat) ?_ ?_
    · exact ⟨0, Nat.zero_le _, rfl, rfl, rfl, hx02, _, hw2, fun j hj => by rcases hj with h | h; exact h.elim; have := hx1.size; omega⟩
    rintro e' w3 ⟨k, hk, e0, e3, e4, hx3, S, hw3, hS⟩
    rw [upd_self e0, upd_self e3, upd_self e4]
    refine go_LWireWrite (k := ?_)
    refine CW_cond _ rfl (fun hh => ?_) (fun hh => ?_)
    · have hlt : k < l.length := by have := of_decide_eq_true hh; omega
      clear hh
      obtain ⟨ad, A', c', hA, hat, hok⟩ := hl.get hlt
      subst hA
      have hfl2 := formL_len hl.tags (k + 1)
      have hgl2 := gsum_take_le l (k + 1)
      have hml := gsum_mem hlt
      have hsucc := formL_take_succ hlt
      have hfk : (formL (l.take k)).length + (pieces l[k]).flatten.length ≤ 65536 := by
        rw [hsucc, List.length_append] at hfl2
        have : (pieces l[k]).flatten = pieceL l[k] := rfl
        rw [this]; omega
      have hadd := addAll_ok (pieces l[k]) (formL (l.take k)) hfk
      rw [show (pieces l[k]).flatten = pieceL l[k] from rfl, ← hsucc] at hadd
      generalize l[k] = f at *
      refine go_LWireWrite (k := ?_)
      refine OW_loadX agg_F rfl (fcells f (.slice A' f.B.length c')) (fcells_length hok.tag) (hat.ext hx3) ?_
      refine go_LWireWrite (k := ?_)
      refine OW_allocA agg_F ?_
      intro w4 g5 hb4 hg5 hlt5 hx4
      refine go_LWireWrite (k := ?_)
      refine OW_storeA agg_F rfl (fcells f (.slice A' f.B.length c')) rfl (fcells_length hok.tag) hb4 (by simp [fcells, tz]) (fcells_one f (by rfl)) ?_
      intro w5 hb5 hgr5
      have hx35 : Ext w3 w5 := (Keeps.of_only (S := (· = g5)) hgr5 rfl).ext hx4 (fun j hj => by omega)
      have m2 : w5.cell? ⟨g5, 2, none⟩ = some (.slice A' f.B.length c') := hb5.cell 2
      refine go_LWireWrite (k := ?_)
      refine OW_callBs Try.func13 (by kernel_rfl) rfl (refCopy_any _ A' f.B c' (hok.bs.ext (hx3.trans' hx35)) (by omega)) rfl ?_
      intro w6 A9 c9 hf9
      have hb6 := hb5.ext hf9.ext
      have hx36 := hx35.trans' hf9.ext
      clear m2
      refine go_LWireWrite (k := ?_)
      refine OW_storeB one_bytes rfl (.slice A9 f.B.length c9) rfl rfl hb6 (by simp [fcells]) ?_
      intro w7 hb7 hgr7
      have hb7 : Blk w7 g5 30 (fcells f (.slice A9 f.B.length c9)).toArray := by
        have e : ((fcells f (.slice A' f.B.length c')).toArray.setIfInBounds 2 (.slice A9 f.B.length c9)) = (fcells f (.slice A9 f.B.length c9)).toArray := by simp [fcells]
        rw [← e]; exact hb7
      have hx37 : Ext w3 w7 := (Keeps.of_only (S := (· = g5)) hgr7 rfl).ext hx36 (fun j hj => by omega)
      have h5lt : g5 < w5.heap.size := hb5.lt
      have ho7 := own_keeps hf9.own (Keeps.of_only (S := (· = g5)) hgr7 rfl) (fun ad ha => by have := (own_block hf9.own ad ha).1; omega)
      have hcap9 := own_cap hf9.own
      have m2 : w7.cell? ⟨g5, 2, none⟩ = some (.slice A9 f.B.length c9) := hb7.cell 2
      have hs35 := hx35.size
      have hs79 := hgr7.size
      have hs69 := hf9.ext.size
      refine go_LWireWrite (k := ?_)
      refine OW_loadX agg_F rfl (fcells f (.slice A9 f.B.length c9)) (fcells_length hok.tag) hb7.atL ?_
      refine go_LWireWrite (k := ?_)
      have hA9 : ∀ ad, A9 = some ad → ¬ S ad.block := fun ad ha hs => by have h1 := hw3.bd _ hs; have h2 := (own_block hf9.own ad ha).1; omega
      refine OW_callC Try.func14 (by kernel_rfl) rfl (write_any w7 g S _ (hw3.ext hx37) f A9 c9 ⟨own_rd ho7, hcap9.1, hok.small, hok.tag, hok.kind, hok.n⟩ hA9 (by omega)) rfl ?_
      rintro en w8 ⟨rfl, hw8, hk8⟩
      refine ⟨_, rfl, ?_⟩
      rw [hadd] at hw8
      have hS5 : ¬ S g5 := fun hs => by have := hw3.bd _ hs; omega
      have hb8 := hb7.keeps hk8 hS5
      have ho8 := own_keeps ho7 hk8 hA9
      have hx38 : Ext w w8 := hk8.ext (hx3.trans' hx37) hS
      have m2' : w8.cell? ⟨g5, 2, none⟩ = some (.slice A9 f.B.length c9) := hb8.cell 2
      have hS8 : ∀ j, more S w7 w8 j → w.heap.size ≤ j := fun j hj => by
        rcases hj with h | h
        · exact hS j h
        · have := hx3.size; omega
      have hA8 : ∀ ad, A9 = some ad → ¬ more S w7 w8 ad.block := fun ad ha hs => by
        rcases hs with h | h
        · exact hA9 ad ha h
        · have := (own_block ho7 ad ha).2; omega
      have hA9g : ∀ ad, A9 = some ad → ad.block ≠ g5 := fun ad ha => by have := (own_block hf9.own ad ha).1; omega
      have hA9w : ∀ ad, A9 = some ad → w.heap.size ≤ ad.block := fun ad ha => by have := (own_block hf9.own ad ha).1; have := hx3.size; omega
      clear m2
      refine go_LWireWrite (k := ?_)
      refine CW_meetB (fun e' w' => e' 0 = .slice (some ad) l.length c1 ∧ e' 3 = .pointer (some ⟨g, 0, none⟩) ∧ e' 4 = .int .i64 k ∧ Keeps w8 w' (fun j => ∃ ad, A9 = some ad ∧ ad.block = j)) ?_ ?_
      · refine go_LWireWrite (k := ?_)
        refine CW_loop (fun e' w' => ∃ (j : Nat) (zs : List UInt8), j ≤ f.B.length ∧ zs.length = f.B.length ∧ e' 0 = .slice (some ad) l.length c1 ∧ e' 3 = .pointer (some ⟨g, 0, none⟩) ∧ e' 4 = .int .i64 k ∧ e' 5 = .pointer (some ⟨g5, 0, none⟩) ∧ e' 6 = .int .i64 j ∧ w'.ownsRow w5.heap.size 5 1 (.slice A9 f.B.length c9) f.B.length (zs.map bv) ∧ Keeps w8 w' (fun j => ∃ ad, A9 = some ad ∧ ad.block = j)) (fun e' _ => f.B.length - (intOf (e' 6)).toNat) ⟨0, f.B, Nat.zero_le _, rfl, rfl, rfl, rfl, rfl, rfl, own_mono ho8 (Nat.le_refl _), Keeps.rfl' _ _⟩ ?_
        rintro e9 w9 ⟨j, zs, hj, hz, e0, e3, e4, e5, e6, ho9, hk9⟩
        rw [upd_self e0, upd_self e3, upd_self e4, upd_self e5, upd_self e6]
        have m9 : w9.cell? ⟨g5, 2, none⟩ = some (.slice A9 f.B.length c9) := hk9.cell m2' (fun ⟨ad, ha, hb⟩ => hA9g ad ha hb)
        refine go_LWireWrite (k := ?_)
        refine CW_cond _ rfl (fun hh => ?_) (fun hh => ?_)
        · have hlt : j < f.B.length := by have := of_decide_eq_true hh; omega
          clear hh
          obtain ⟨g9, cur, hA, hg9, _⟩ := own_blk ho9 (by omega)
          subst hA
          have hcell := inc_cell ho9 hz hlt
          have hst := inc_step ho9 hz hlt (zs[j]'(by omega) + 1)
          refine go_LWireWrite (k := ?_)
          rw [inc_u8]
          refine go_LWireWrite (k := ?_)
          rw [add0] at hcell ⊢
          refine OW_store1 one_u8 rfl (bv (zs[j]'(by omega) + 1)) (bv (zs[j]'(by omega))) rfl rfl hcell (ho9.frozenAt j) ?_
          refine go_LWireWrite (k := ?_)
          refine ⟨⟨j + 1, _, by omega, by simp [hz], rfl, rfl, rfl, rfl, rfl, hst.1, hk9.trans' (Keeps.of_only hst.2 ⟨_, rfl, rfl⟩)⟩, ?_⟩
          show f.B.length - ((j : Int) + 1).toNat < f.B.length - (j : Int).toNat
          omega
        · refine go_LWireWrite (k := ?_)
          exact ⟨rfl, rfl, rfl, rfl, hk9⟩
      rintro e9 w9 ⟨q0, q3, q4, hk9⟩
      rw [upd_self q0, upd_self q3, upd_self q4]
      refine go_LWireWrite (k := ?_)
      refine ⟨⟨k + 1, by omega, rfl, rfl, rfl, hk9.ext hx38 (fun j ⟨ad, ha, hb⟩ => by have := hA9w ad ha; omega), _, hw8.keeps hk9 (fun j hj ⟨ad, ha, hb⟩ => hA8 ad ha (by rw [hb]; exact hj)), hS8⟩, ?_⟩
      show l.length - ((k : Int) + 1).toNat < l.length - (k : Int).toNat
      omega
    · have hge : k = l.length := by have := of_decide_eq_false hh; omega
      subst hge
      rw [List.take_of_length_le (Nat.le_refl _)] at hw3
      refine go_LWireWrite (k := ?_)
      exact ⟨rfl, rfl, rfl, hx3, S, hw3, hS⟩
  rintro e3 w3 ⟨q0, q3, hx3, S, hw3, hS⟩
  rw [upd_self q0, upd_self q3]
  have hfl := formL_len hl.tags l.length
  rw [List.take_of_length_le (Nat.le_refl _)] at hfl
  refine go_LWireWrite (k := ?_)
  refine OW_callBs Try.func15 (by kernel_rfl) rfl (form_any w3 A1 c1 l (hl.ext hx3) hg) rfl ?_
  intro w4 A7 c7 hf7
  have hx4 := hx3.trans' hf7.ext
  have hw4 := hw3.ext hf7.ext
  have hb4 := hf7.bs
  have hA7 : ∀ ad, A7 = some ad → ¬ S ad.block ∧ ad.block < w4.heap.size := fun ad ha => by
    have h2 := own_block hf7.own ad ha
    exact ⟨fun hs => by have := hw3.bd _ hs; omega, h2.2⟩
  generalize formL l = F at *
  refine go_LWireWrite (k := ?_)
  refine CW_loop (fun e' w' => ∃ t : Nat, t ≤ 2 ∧ e' 3 = .pointer (some ⟨g, 0, none⟩) ∧ e' 7 = .slice A7 F.length c7 ∧ e' 8 = .int .i64 t ∧ Ext w4 w') (fun e' _ => 2 - (intOf (e' 8)).toNat) ⟨0, Nat.zero_le _, rfl, rfl, rfl, Ext.rfl' _⟩ ?_
  rintro e' w5 ⟨t, ht, e3, e7, e8, hx5⟩
  rw [upd_self e3, upd_self e7, upd_self e8]
  refine go_LWireWrite (k := ?_)
  refine CW_cond _ rfl (fun hh => ?_) (fun hh => ?_)
  · have hlt : t < 2 := by have := of_decide_eq_true hh; omega
    clear hh
    refine go_LWireWrite (k := ?_)
    refine OW_callC Try.func16 (by kernel_rfl) rfl (wDone_any w5 g _ _ (hw4.ext hx5)) rfl ?_
    rintro en w6 ⟨hx6, hd⟩
    rcases hd with ⟨hf, _⟩ | ⟨_, A9, c9, rfl, hf9⟩
    · cases hf
    refine ⟨_, rfl, ?_⟩
    have ho9 := hf9.own
    have hb9 := hf9.bs
    have hx56 := hx5.trans' hx6
    have hF : (false, F).2 = F := rfl
    rw [hF] at ho9 hb9
    refine go_LWireWrite (k := ?_)
    refine OW_callV Try.func17 (by kernel_rfl) rfl (refSame_any _ A9 A7 F F c9 c7 hb9 (hb4.ext hx56) (by omega)) rfl ?_
    intro w7 hx7
    rw [beq_self_eq_true]
    have o7 := own_ext ho9 hx7
    refine go_LWireWrite (k := ?_)
    refine CW_loop (fun e' w' => ∃ (k : Nat) (zs : List UInt8), k ≤ F.length ∧ zs.length = F.length ∧ e' 9 = .slice A9 F.length c9 ∧ e' 11 = .int .i64 k ∧ e' 3 = .pointer (some ⟨g, 0, none⟩) ∧ e' 7 = .slice A7 F.length c7 ∧ e' 8 = .int .i64 t ∧ w'.ownsRow w5.heap.size 5 1 (.slice A9 F.length c9) F.length (zs.map bv) ∧ w7.grownBy w' (Value.ownBlock (.slice A9 F.length c9))) (fun e' _ => F.length - (intOf (e' 11)).toNat) ?_ ?_
    · exact ⟨0, F, Nat.zero_le _, rfl, rfl, rfl, rfl, rfl, rfl, o7, World.grownBy.refl _ _⟩
    rintro ea wa ⟨ka, za, hak, haz, has, hai, qa_3, qa_7, qa_8, hao, hag⟩
    rw [upd_self has, upd_self hai, upd_self qa_3, upd_self qa_7, upd_self qa_8]
    refine go_LWireWrite (k := ?_)
    refine CW_cond _ rfl (fun hh => ?_) (fun _ => ?_)
    · have hlt : ka < F.length := by simpa using hh
      obtain ⟨g, cur, hA, hg, _⟩ := own_blk hao (by omega)
      subst hA
      have hcell := inc_cell hao haz hlt
      have hst := inc_step hao haz hlt (za[ka]'(by omega) + 1)
      refine go_LWireWrite (k := ?_)
      rw [inc_u8]
      refine go_LWireWrite (k := ?_)
      rw [add0] at hcell ⊢
      refine OW_store1 one_u8 rfl (bv (za[ka]'(by omega) + 1)) (bv (za[ka]'(by omega))) rfl rfl hcell (hao.frozenAt ka) ?_
      refine go_LWireWrite (k := ?_)
      refine ⟨⟨ka + 1, _, by omega, by simp [haz], rfl, rfl, rfl, rfl, rfl, hst.1, grown_trans' hag hst.2⟩, ?_⟩
      show F.length - ((ka : Int) + 1).toNat < F.length - (ka : Int).toNat
      omega
    refine go_LWireWrite (k := ?_)
    have hxa : Ext w4 wa := (Keeps.of_grown (S := fun j => w5.heap.size ≤ j) hag (fun j hj => (o7.lt j hj).1)).ext (hx56.trans' hx7) (fun j hj => by have := hx5.size; omega)
    refine ⟨⟨t + 1, by omega, rfl, rfl, rfl, hxa⟩, ?_⟩
    show 2 - ((t : Int) + 1).toNat < 2 - (t : Int).toNat
    omega
  · refine go_LWireWrite (k := ?_)
    exact bodyE_ret1 rfl (.bool true) rfl ⟨rfl, hx4.trans' hx5⟩
set_option maxRecDepth 100000 in
theorem lifted (os : Os) (started : os.Started) (H : Type) (enc : TypeId × Value → H) :
    ReturnsInHanded {} Try.checked os 3 .any (Rows.wireWriteSpec.pre6 enc Try.prog Try.f3 Rows.wireWriteRow.domain false) (Rows.wireWriteSpec.post enc Try.prog Try.f3 false true false false) := by
  refine returnsInHanded_of_change_sized (C := Try.checked) ownP started (by kernel_rfl) Try.func3
    (ChangeSpec.witness6 (enc := enc) (C := Try.checked) false ⟨#[], #[.slice none 0 0], []⟩ 8 (by kernel_rfl) (by kernel_rfl) (by kernel_rfl) (by kernel_rfl)) ?_
  intro W base args ds gs before hval0 hW hcnd hwt0 _
  have hval : ∀ (j : Nat) t v, Try.f3.params[j]? = some t → args[j]? = some v → Value.okWide Try.prog W .any base t v := hval0
  have hW' := hW
  obtain ⟨p, q, hA0, hV, rfl, hfz, hnd⟩ := hW
  have hA : DataW.TrodAll enc Try.prog W 0 (fun _ => true) true Try.f3.params.toList args.toList ds p := hA0
  have hwt : (DataW.weightsEach Try.prog (Try.f3.params.toList ++ []) (ds ++ gs)).all (· ≤ reachBytes) = true := hwt0
  rw [Try.params3] at hA hval hwt
  obtain ⟨v0, vs0, d0, ds0, p0, q0, hargs, rfl, rfl, h0, r0⟩ := trodAll_cons hA
  obtain ⟨rfl, rfl, rfl⟩ := trodAll_nil r0
  obtain rfl : args = #[v0] := by cases args; simp_all
  obtain ⟨rfl, rfl⟩ := trodVars_none hV
  have k0 := h0
  have lt0 : ∀ x ∈ p0, x.block < W.heap.size := by obtain ⟨m, hm⟩ := k0; exact DataW.trod_lt m _ _ _ hm
  have wk0 : WOk Try.prog 22 d0 := wok_each hwt 0 rfl rfl
  obtain ⟨a0, b0⟩ := kd_slice kFields und_Fs (hval 0 22 v0 rfl rfl) h0 wk0
  clear hA0 hval0 hwt0
  refine (walk W v0 a0 b0).mono fun e W' ⟨he, bel⟩ => ?_
  subst he
  exact ⟨_, rfl, _, _, _, [], _, [], hW', trodAll_mk1 (shut_bool Try.underlying4 _), (trodAll_cons_mk (Below.trod laidP (by kernel_rfl) (of_decide_eq_true (by kernel_rfl)) k0 bel lt0) trodAll_mk0), rfl, bel.frame _, fun h => by cases h⟩
theorem over : Rows.wireWriteRow.holds Try.pinned (OpenSpec.ofChange Rows.wireWriteSpec) :=
  OpenClaim.holds_of_wide 3 Try.f3 rfl rfl rfl rfl rfl rfl rfl ⟨rfl, rfl, rfl, rfl, rfl⟩ rfl rfl rfl rfl rfl (by kernel_rfl) Try.func3 (by kernel_rfl)
    (of_decide_eq_true (by kernel_rfl)) (by unfold Func.isWrapper; first | (rw [if_pos (by decide +kernel)]; kernel_rfl) | (rw [if_neg (by decide +kernel)]; exact ⟨rfl, rfl⟩))
    (fun os started H enc _ => lifted os started H enc)
theorem proved : Rows.WireWriteSaid := over
#print axioms proved
end Go.Proofs.Ytnaflojlmgnkgaa.lawWireWrite
