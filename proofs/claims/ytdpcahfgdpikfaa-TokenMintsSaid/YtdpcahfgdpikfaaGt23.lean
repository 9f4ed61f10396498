/- Several texts in one, as they stand in wip/src. -/
import Derived.Test.YtdpcahfgdpikfaaGt19
import Derived.Test.YtdpcahfgdpikfaaGt22
/- Tokens, plainly: the reference's reading of bytes is the chapter's. No program in sight. -/
namespace Go.Proofs.Ytdpcahfgdpikfaa
open Go Go.RowKit
set_option linter.unusedVariables false
def atF : Int → List UInt8 → Int
  | n, [] => n
  | n, c :: l => if 2199023255552 < n then -1 else atF (256 * n + c.toNat) l
def atI (b : List UInt8) (i : Nat) : Int := atF 0 ((b.drop i).take 8)
theorem fold_ge : ∀ (l : List UInt8) (n : Nat), n ≤ l.foldl (fun x b => 256 * x + b.toNat) n
  | [], n => Nat.le_refl _
  | c :: l, n => by rw [List.foldl_cons]; exact Nat.le_trans (by omega) (fold_ge l _)
theorem atF_eq : ∀ (l : List UInt8) (n : Nat), l.foldl (fun x b => 256 * x + b.toNat) n ≤ 1099511627776 → atF n l = ((l.foldl (fun x b => 256 * x + b.toNat) n : Nat) : Int)
  | [], n, _ => rfl
  | c :: l, n, h => by
    rw [List.foldl_cons] at h ⊢
    have h2 := fold_ge l (256 * n + c.toNat)
    rw [atF, if_neg (by omega), ← atF_eq l _ h]
    congr 1
theorem atI_eq {b : List UInt8} {i : Nat} (h : (numA b i : Int) ≤ two40) : atI b i = numA b i := atF_eq _ 0 (by unfold two40 at h; unfold numA loadL at h; omega)
theorem atF_in : ∀ (l : List UInt8) (n : Int), 0 ≤ n → n ≤ 562949953421567 → -1 ≤ atF n l ∧ atF n l ≤ 562949953421567
  | [], n, h, h2 => ⟨by rw [atF]; omega, h2⟩
  | c :: l, n, h, h2 => by
    have hc := c.toNat_lt
    rw [atF]
    by_cases hn : 2199023255552 < n
    · rw [if_pos hn]; omega
    · rw [if_neg hn]
      exact atF_in l _ (by omega) (by omega)
theorem atI_in (b : List UInt8) (i : Nat) : -1 ≤ atI b i ∧ atI b i ≤ 562949953421567 := atF_in _ 0 (by omega) (by omega)
/-- What the reference reads: a grant, a token; whether it goes on. -/
def gdR (b : List UInt8) (i : Nat) : GD := ⟨UInt8.ofNat (atI b (16 + 24 * i)).toNat, atI b (24 + 24 * i), atI b (32 + 24 * i)⟩
def fineR (b : List UInt8) (i : Nat) : Bool := decide (0 ≤ atI b (16 + 24 * i)) && decide (atI b (16 + 24 * i) ≤ 15)
def cntR (b : List UInt8) : Nat := (b.length - 48) / 24
def readR (b : List UInt8) : TK := ⟨atI b 0, (List.range (cntR b)).map (gdR b), b.drop (b.length - 32)⟩
def lenR (b : List UInt8) : Bool := decide (72 ≤ b.length) && decide (b.length % 24 = 0)
def goodR (b : List UInt8) : Prop := lenR b = true ∧ (∀ i, i < cntR b → fineR b i = true) ∧ printT (readR b) = b
theorem good_of {b : List UInt8} (hg : goodR b) : goodT b = true ∧ readR b = readT b := by
  obtain ⟨hl, _, hp⟩ := hg
  unfold lenR at hl
  simp only [Bool.and_eq_true, decide_eq_true_eq] at hl
  have hm : mayT (readR b) = true := by
    cases hh : mayT (readR b) with
    | true => rfl
    | false =>
      unfold printT at hp
      rw [hh, if_neg (by decide)] at hp
      rw [← hp] at hl
      have := hl.1
      simp at this
  have ht : (readR b).tag.length = 32 := by
    show (b.drop (b.length - 32)).length = 32
    rw [List.length_drop]
    omega
  have h := par_print hm ht
  rw [hp] at h
  exact ⟨h.1, h.2.symm⟩
theorem of_good {b : List UInt8} (h0 : goodT b = true) : goodR b := by
  obtain ⟨p1, p2, p3⟩ := print_par h0
  have h := h0
  unfold goodT at h
  simp only [Bool.and_eq_true, decide_eq_true_eq, List.all_eq_true, List.mem_range] at h
  obtain ⟨⟨⟨h1, h2⟩, ⟨h3, h4⟩, h5⟩, h6, h7⟩ := h
  have hc : cntR b = numA b 8 := by unfold cntR; omega
  have hg : ∀ i, i < numA b 8 → gdR b i = gdA b i ∧ fineR b i = true := fun i hi => by
    have hf := h6 i hi
    unfold fineA at hf
    simp only [Bool.and_eq_true, decide_eq_true_eq] at hf
    obtain ⟨⟨f1, f2⟩, f3⟩ := hf
    have e1 : atI b (16 + 24 * i) = numA b (16 + 24 * i) := atI_eq (by unfold two40; omega)
    have hr := (mayT_parts h7).2.2.2.2 (gdA b i) (List.mem_map.2 ⟨i, List.mem_range.2 hi, rfl⟩)
    unfold mayG at hr
    simp only [Bool.and_eq_true, decide_eq_true_eq] at hr
    have hr1 := hr.1.1
    have e2 : (gdA b i).rights.toNat = numA b (16 + 24 * i) := by
      show (UInt8.ofNat _).toNat = _
      rw [UInt8.toNat_ofNat']; omega
    refine ⟨?_, ?_⟩
    · unfold gdR gdA
      rw [e1, atI_eq f2, atI_eq f3]
      rfl
    · unfold fineR
      rw [e1]
      simp only [Bool.and_eq_true, decide_eq_true_eq]
      omega
  have hr : readR b = readT b := by
    unfold readR readT
    rw [hc, atI_eq h2, show b.length - 32 = 16 + 24 * numA b 8 by omega]
    congr 1
    apply List.map_congr_left
    intro i hi
    exact (hg i (List.mem_range.1 hi)).1
  refine ⟨?_, fun i hi => (hg i (by omega)).2, ?_⟩
  · unfold lenR
    simp only [Bool.and_eq_true, decide_eq_true_eq]
    omega
  · rw [hr]; exact p3
theorem parR_ok {b : List UInt8} (hg : goodR b) : parT b = (readR b, 0) := by
  obtain ⟨h1, h2⟩ := good_of hg
  unfold parT
  rw [if_pos h1, h2]
theorem parR_no {b : List UInt8} (hg : ¬ goodR b) : parT b = (t0, 90) := by
  unfold parT
  rw [if_neg (fun h => hg (of_good h))]
end Go.Proofs.Ytdpcahfgdpikfaa

/- Walks: a token printed, checked, verified, by the program and by the reference; what is left of a line. -/
namespace Go.Proofs.Ytdpcahfgdpikfaa
open Go Go.RowKit Go.ChangeShapes Go.WideShapes
set_option linter.unusedVariables false
set_option maxRecDepth 4000
theorem go_Tok6 {A B : Prop} (h : Held B → A := by
  intro hEnd
  repeat (first | refine OW_neqQF s_eqr_Tag rfl rfl (by assumption) (by assumption) ?_ | refine OW_neqQT s_eqr_Tag rfl rfl (by assumption) (by assumption) (by assumption) ?_ | refine OW_eqlIF rfl rfl (by assumption) ?_ | refine OW_neqIF rfl rfl (by assumption) ?_ | refine OW_neqIT rfl rfl (by assumption) ?_ | refine OW_fieldO fldo_G0 rfl ?_ | refine OW_fieldO fldo_G1 rfl ?_ | (refine OW_isLoad ?_; refine OW_loadM (by first | with_reducible exact agg_Grant | with_reducible exact s_agg_Tag | with_reducible exact agg_Token) rfl (by first | assumption | (apply_assumption; assumption)) ?_) | refine OW_idxN und_Grants el_Grant rfl rfl 0 rfl (by omega) ?_ | refine OW_sliceP h_slp_Tag rfl ?_ | refine OW_slicePOT a_slp_TagT rfl ?_ | refine OW_fieldB fldo_G0 rfl ?_ | refine OW_fieldB fldo_G1 rfl ?_ | refine OW_fieldB fldo_G2 rfl ?_ | refine OW_fieldB fldo_T0 rfl ?_ | refine OW_fieldB fldo_T1 rfl ?_ | refine OW_fieldB fldo_T2 rfl ?_ | refine OW_lenS und_Grants rfl ?_ | refine OW_idxN und_Grants el_Grant rfl rfl _ rfl (by omega) ?_ | refine OW_moveV (.int _ _) rfl ?_ | refine OW_moveV (.slice _ _ _) rfl ?_ | refine OW_moveV (.bool _) rfl ?_ | refine OW_moveV (.pointer _) rfl ?_ | refine OW_moveV (.string _) rfl ?_ | refine OW_moveV (.agg _) rfl ?_ | refine OW_moveV (.tuple _) rfl ?_ | refine OW_nil ?_ | refine thenE_normal ?_ | refine CW_seq ?_ | refine CW_region (by kernel_rfl) ?_ | refine OW_assignV (.int _ _) rfl ?_ | refine OW_assignV (.slice _ _ _) rfl ?_ | refine OW_assignV (.bool _) rfl ?_ | refine OW_assignV (.pointer _) rfl ?_ | refine OW_assignV (.string _) rfl ?_ | refine OW_assignV (.agg _) rfl ?_ | refine OW_assignV (.tuple _) rfl ?_ | refine OW_addI rfl rfl (by omega) ?_ | refine OW_subI rfl rfl (by omega) ?_ | refine OW_mulI rfl rfl (by omega) ?_ | refine OW_lss rfl rfl ?_ | refine OW_extract rfl rfl ?_ | refine OW_gtr rfl rfl ?_ | refine OW_leq rfl rfl ?_ | refine OW_geq rfl rfl ?_ | refine OW_eql rfl rfl ?_ | refine OW_neq rfl rfl ?_ | refine OW_not rfl ?_ | refine OW_pickT rfl _ rfl ?_ | refine OW_pickF rfl (.bool _) rfl ?_ | refine OW_pickB rfl rfl rfl ?_ | refine OW_move ?_ | refine OW_assign ?_ | refine OW_pass rfl ?_ | refine OW_take rfl ?_ | refine OW_lenS (by first | with_reducible exact und_bytes | with_reducible exact und_bytess) rfl ?_ | refine OW_convInt (by first | with_reducible exact und_u8 | with_reducible exact und_u64 | with_reducible exact und_int | with_reducible exact und_u32) (by first | with_reducible exact und_u8 | with_reducible exact und_u64 | with_reducible exact und_int | with_reducible exact und_u32) rfl ?_ | refine OW_add rfl rfl ?_ | refine OW_sub rfl rfl ?_ | refine OW_mul rfl rfl ?_ | refine OW_min2 rfl rfl ?_ | refine OW_max2 rfl rfl ?_ | refine OW_neg rfl ?_ | refine CW_block ?_ | refine CW_condT rfl ?_ | refine CW_condF rfl ?_ | refine CW_exit ?_ | refine CW_ret ?_ | refine CW_skip ?_ | refine LW_seq ?_ | refine LW_regC ?_ | refine LW_condC ?_ | refine LW_regF ?_ | refine LW_condF ?_ | refine FW_seq ?_ | refine FW_region (by kernel_rfl) ?_ | refine FW_block ?_ | refine FW_condT rfl ?_ | refine FW_condF rfl ?_ | refine FW_exit ?_ | refine FW_ret ?_ | refine FW_skip ?_ | refine LW_ret ?_ | refine LW_skip ?_ | refine thenE_exit ?_ | refine thenE_ret ?_ | refine inBlockE_normal ?_ | refine inBlockE_same ?_ | refine inBlockE_ret ?_ | refine inBlockE_ne (by rfl) ?_ | refine OW_eqlB (by with_reducible exact und_bool) rfl rfl ?_ | refine OW_neqB (by with_reducible exact und_bool) rfl rfl ?_ | refine OW_idxS (by with_reducible exact und_bytes) one_u8 rfl rfl _ rfl (by omega) ?_ | refine OW_idxS (by with_reducible exact und_bytess) one_bytes rfl rfl _ rfl (by omega) ?_ | refine OW_load1 (by first | with_reducible exact one_u8 | with_reducible exact one_bytes) rfl _ (by assumption) ?_ | (refine OW_isLoad ?_; refine OW_loadBk (by first | with_reducible exact s_int | with_reducible exact one_u8 | with_reducible exact one_grants) rfl (by assumption) _ (by rfl) ?_) | refine OW_load1 s_int rfl _ (by assumption) ?_)
  exact hEnd.out) (k : B) : A := h ⟨k⟩
theorem oy_Tok6 {A B : Prop} (h : Held B → A := by
  intro hEnd
  repeat (first
    | refine OY_done ?_
    | (apply OY_p _ rfl
       · intro wd
         (first | refine OW_neqQF s_eqr_Tag rfl rfl (by assumption) (by assumption) ?_ | refine OW_neqQT s_eqr_Tag rfl rfl (by assumption) (by assumption) (by assumption) ?_ | refine OW_eqlIF rfl rfl (by assumption) ?_ | refine OW_neqIF rfl rfl (by assumption) ?_ | refine OW_neqIT rfl rfl (by assumption) ?_ | refine OW_fieldO fldo_G0 rfl ?_ | refine OW_fieldO fldo_G1 rfl ?_ | (refine OW_isLoad ?_; refine OW_loadM (by first | with_reducible exact agg_Grant | with_reducible exact s_agg_Tag | with_reducible exact agg_Token) rfl (by first | assumption | (apply_assumption; assumption)) ?_) | refine OW_idxN und_Grants el_Grant rfl rfl 0 rfl (by omega) ?_ | refine OW_sliceP h_slp_Tag rfl ?_ | refine OW_slicePOT a_slp_TagT rfl ?_ | refine OW_fieldB fldo_G0 rfl ?_ | refine OW_fieldB fldo_G1 rfl ?_ | refine OW_fieldB fldo_G2 rfl ?_ | refine OW_fieldB fldo_T0 rfl ?_ | refine OW_fieldB fldo_T1 rfl ?_ | refine OW_fieldB fldo_T2 rfl ?_ | refine OW_lenS und_Grants rfl ?_ | refine OW_idxN und_Grants el_Grant rfl rfl _ rfl (by omega) ?_ | refine OW_moveV (.int _ _) rfl ?_ | refine OW_moveV (.slice _ _ _) rfl ?_ | refine OW_moveV (.bool _) rfl ?_ | refine OW_moveV (.pointer _) rfl ?_ | refine OW_moveV (.string _) rfl ?_ | refine OW_moveV (.agg _) rfl ?_ | refine OW_moveV (.tuple _) rfl ?_ | refine OW_nil ?_ | refine thenE_normal ?_ | refine CW_seq ?_ | refine CW_region (by kernel_rfl) ?_ | refine OW_assignV (.int _ _) rfl ?_ | refine OW_assignV (.slice _ _ _) rfl ?_ | refine OW_assignV (.bool _) rfl ?_ | refine OW_assignV (.pointer _) rfl ?_ | refine OW_assignV (.string _) rfl ?_ | refine OW_assignV (.agg _) rfl ?_ | refine OW_assignV (.tuple _) rfl ?_ | refine OW_addI rfl rfl (by omega) ?_ | refine OW_subI rfl rfl (by omega) ?_ | refine OW_mulI rfl rfl (by omega) ?_ | refine OW_lss rfl rfl ?_ | refine OW_extract rfl rfl ?_ | refine OW_gtr rfl rfl ?_ | refine OW_leq rfl rfl ?_ | refine OW_geq rfl rfl ?_ | refine OW_eql rfl rfl ?_ | refine OW_neq rfl rfl ?_ | refine OW_not rfl ?_ | refine OW_pickT rfl _ rfl ?_ | refine OW_pickF rfl (.bool _) rfl ?_ | refine OW_pickB rfl rfl rfl ?_ | refine OW_move ?_ | refine OW_assign ?_ | refine OW_pass rfl ?_ | refine OW_take rfl ?_ | refine OW_lenS (by first | with_reducible exact und_bytes | with_reducible exact und_bytess) rfl ?_ | refine OW_convInt (by first | with_reducible exact und_u8 | with_reducible exact und_u64 | with_reducible exact und_int | with_reducible exact und_u32) (by first | with_reducible exact und_u8 | with_reducible exact und_u64 | with_reducible exact und_int | with_reducible exact und_u32) rfl ?_ | refine OW_add rfl rfl ?_ | refine OW_sub rfl rfl ?_ | refine OW_mul rfl rfl ?_ | refine OW_min2 rfl rfl ?_ | refine OW_max2 rfl rfl ?_ | refine OW_neg rfl ?_ | refine CW_block ?_ | refine CW_condT rfl ?_ | refine CW_condF rfl ?_ | refine CW_exit ?_ | refine CW_ret ?_ | refine CW_skip ?_ | refine LW_seq ?_ | refine LW_regC ?_ | refine LW_condC ?_ | refine LW_regF ?_ | refine LW_condF ?_ | refine FW_seq ?_ | refine FW_region (by kernel_rfl) ?_ | refine FW_block ?_ | refine FW_condT rfl ?_ | refine FW_condF rfl ?_ | refine FW_exit ?_ | refine FW_ret ?_ | refine FW_skip ?_ | refine LW_ret ?_ | refine LW_skip ?_ | refine thenE_exit ?_ | refine thenE_ret ?_ | refine inBlockE_normal ?_ | refine inBlockE_same ?_ | refine inBlockE_ret ?_ | refine inBlockE_ne (by rfl) ?_ | refine OW_eqlB (by with_reducible exact und_bool) rfl rfl ?_ | refine OW_neqB (by with_reducible exact und_bool) rfl rfl ?_ | refine OW_idxS (by with_reducible exact und_bytes) one_u8 rfl rfl _ rfl (by omega) ?_ | refine OW_idxS (by with_reducible exact und_bytess) one_bytes rfl rfl _ rfl (by omega) ?_ | refine OW_load1 (by first | with_reducible exact one_u8 | with_reducible exact one_bytes) rfl _ (by assumption) ?_ | (refine OW_isLoad ?_; refine OW_loadBk (by first | with_reducible exact s_int | with_reducible exact one_u8 | with_reducible exact one_grants) rfl (by assumption) _ (by rfl) ?_) | refine OW_load1 s_int rfl _ (by assumption) ?_)
         refine OW_nil ?_
         exact stay_mk _ _ _ _)
    | (apply OY_q _ rfl
       · intro wd hwd
         (first | refine OW_neqQF s_eqr_Tag rfl rfl (by assumption) (by assumption) ?_ | refine OW_neqQT s_eqr_Tag rfl rfl (by assumption) (by assumption) (by assumption) ?_ | refine OW_eqlIF rfl rfl (by assumption) ?_ | refine OW_neqIF rfl rfl (by assumption) ?_ | refine OW_neqIT rfl rfl (by assumption) ?_ | refine OW_fieldO fldo_G0 rfl ?_ | refine OW_fieldO fldo_G1 rfl ?_ | (refine OW_isLoad ?_; refine OW_loadM (by first | with_reducible exact agg_Grant | with_reducible exact s_agg_Tag | with_reducible exact agg_Token) rfl (by first | assumption | (apply_assumption; assumption)) ?_) | refine OW_idxN und_Grants el_Grant rfl rfl 0 rfl (by omega) ?_ | refine OW_sliceP h_slp_Tag rfl ?_ | refine OW_slicePOT a_slp_TagT rfl ?_ | refine OW_fieldB fldo_G0 rfl ?_ | refine OW_fieldB fldo_G1 rfl ?_ | refine OW_fieldB fldo_G2 rfl ?_ | refine OW_fieldB fldo_T0 rfl ?_ | refine OW_fieldB fldo_T1 rfl ?_ | refine OW_fieldB fldo_T2 rfl ?_ | refine OW_lenS und_Grants rfl ?_ | refine OW_idxN und_Grants el_Grant rfl rfl _ rfl (by omega) ?_ | refine OW_moveV (.int _ _) rfl ?_ | refine OW_moveV (.slice _ _ _) rfl ?_ | refine OW_moveV (.bool _) rfl ?_ | refine OW_moveV (.pointer _) rfl ?_ | refine OW_moveV (.string _) rfl ?_ | refine OW_moveV (.agg _) rfl ?_ | refine OW_moveV (.tuple _) rfl ?_ | refine OW_nil ?_ | refine thenE_normal ?_ | refine CW_seq ?_ | refine CW_region (by kernel_rfl) ?_ | refine OW_assignV (.int _ _) rfl ?_ | refine OW_assignV (.slice _ _ _) rfl ?_ | refine OW_assignV (.bool _) rfl ?_ | refine OW_assignV (.pointer _) rfl ?_ | refine OW_assignV (.string _) rfl ?_ | refine OW_assignV (.agg _) rfl ?_ | refine OW_assignV (.tuple _) rfl ?_ | refine OW_addI rfl rfl (by omega) ?_ | refine OW_subI rfl rfl (by omega) ?_ | refine OW_mulI rfl rfl (by omega) ?_ | refine OW_lss rfl rfl ?_ | refine OW_extract rfl rfl ?_ | refine OW_gtr rfl rfl ?_ | refine OW_leq rfl rfl ?_ | refine OW_geq rfl rfl ?_ | refine OW_eql rfl rfl ?_ | refine OW_neq rfl rfl ?_ | refine OW_not rfl ?_ | refine OW_pickT rfl _ rfl ?_ | refine OW_pickF rfl (.bool _) rfl ?_ | refine OW_pickB rfl rfl rfl ?_ | refine OW_move ?_ | refine OW_assign ?_ | refine OW_pass rfl ?_ | refine OW_take rfl ?_ | refine OW_lenS (by first | with_reducible exact und_bytes | with_reducible exact und_bytess) rfl ?_ | refine OW_convInt (by first | with_reducible exact und_u8 | with_reducible exact und_u64 | with_reducible exact und_int | with_reducible exact und_u32) (by first | with_reducible exact und_u8 | with_reducible exact und_u64 | with_reducible exact und_int | with_reducible exact und_u32) rfl ?_ | refine OW_add rfl rfl ?_ | refine OW_sub rfl rfl ?_ | refine OW_mul rfl rfl ?_ | refine OW_min2 rfl rfl ?_ | refine OW_max2 rfl rfl ?_ | refine OW_neg rfl ?_ | refine CW_block ?_ | refine CW_condT rfl ?_ | refine CW_condF rfl ?_ | refine CW_exit ?_ | refine CW_ret ?_ | refine CW_skip ?_ | refine LW_seq ?_ | refine LW_regC ?_ | refine LW_condC ?_ | refine LW_regF ?_ | refine LW_condF ?_ | refine FW_seq ?_ | refine FW_region (by kernel_rfl) ?_ | refine FW_block ?_ | refine FW_condT rfl ?_ | refine FW_condF rfl ?_ | refine FW_exit ?_ | refine FW_ret ?_ | refine FW_skip ?_ | refine LW_ret ?_ | refine LW_skip ?_ | refine thenE_exit ?_ | refine thenE_ret ?_ | refine inBlockE_normal ?_ | refine inBlockE_same ?_ | refine inBlockE_ret ?_ | refine inBlockE_ne (by rfl) ?_ | refine OW_eqlB (by with_reducible exact und_bool) rfl rfl ?_ | refine OW_neqB (by with_reducible exact und_bool) rfl rfl ?_ | refine OW_idxS (by with_reducible exact und_bytes) one_u8 rfl rfl _ rfl (by omega) ?_ | refine OW_idxS (by with_reducible exact und_bytess) one_bytes rfl rfl _ rfl (by omega) ?_ | refine OW_load1 (by first | with_reducible exact one_u8 | with_reducible exact one_bytes) rfl _ (by assumption) ?_ | (refine OW_isLoad ?_; refine OW_loadBk (by first | with_reducible exact s_int | with_reducible exact one_u8 | with_reducible exact one_grants) rfl (by assumption) _ (by rfl) ?_) | refine OW_load1 s_int rfl _ (by assumption) ?_ | (refine OW_isLoad ?_; refine OW_loadBk (by first | with_reducible exact one_u8 | with_reducible exact one_bytes | with_reducible exact one_bool | with_reducible exact one_int | with_reducible exact one_errno | with_reducible exact one_u32 | with_reducible exact one_u64 | with_reducible exact one_string | with_reducible exact s_int | with_reducible exact one_u8 | with_reducible exact one_grants) rfl (by apply_assumption; assumption) _ (by first | assumption | rfl) ?_) | refine OW_load1 (by first | with_reducible exact one_u8 | with_reducible exact one_bytes | with_reducible exact one_bool | with_reducible exact one_int | with_reducible exact one_errno | with_reducible exact one_u32 | with_reducible exact one_u64 | with_reducible exact one_string | with_reducible exact s_int | with_reducible exact one_u8 | with_reducible exact one_grants) rfl _ (by apply_assumption; assumption) ?_)
         refine OW_nil ?_
         exact stay_mk _ _ _ _)
    | refine OY_ppass rfl rfl ?_
    | refine OY_qpass rfl rfl ?_
    | (apply OY_ptake _ rfl rfl
       · intro wd
         (first | refine OW_neqQF s_eqr_Tag rfl rfl (by assumption) (by assumption) ?_ | refine OW_neqQT s_eqr_Tag rfl rfl (by assumption) (by assumption) (by assumption) ?_ | refine OW_eqlIF rfl rfl (by assumption) ?_ | refine OW_neqIF rfl rfl (by assumption) ?_ | refine OW_neqIT rfl rfl (by assumption) ?_ | refine OW_fieldO fldo_G0 rfl ?_ | refine OW_fieldO fldo_G1 rfl ?_ | (refine OW_isLoad ?_; refine OW_loadM (by first | with_reducible exact agg_Grant | with_reducible exact s_agg_Tag | with_reducible exact agg_Token) rfl (by first | assumption | (apply_assumption; assumption)) ?_) | refine OW_idxN und_Grants el_Grant rfl rfl 0 rfl (by omega) ?_ | refine OW_sliceP h_slp_Tag rfl ?_ | refine OW_slicePOT a_slp_TagT rfl ?_ | refine OW_fieldB fldo_G0 rfl ?_ | refine OW_fieldB fldo_G1 rfl ?_ | refine OW_fieldB fldo_G2 rfl ?_ | refine OW_fieldB fldo_T0 rfl ?_ | refine OW_fieldB fldo_T1 rfl ?_ | refine OW_fieldB fldo_T2 rfl ?_ | refine OW_lenS und_Grants rfl ?_ | refine OW_idxN und_Grants el_Grant rfl rfl _ rfl (by omega) ?_ | refine OW_moveV (.int _ _) rfl ?_ | refine OW_moveV (.slice _ _ _) rfl ?_ | refine OW_moveV (.bool _) rfl ?_ | refine OW_moveV (.pointer _) rfl ?_ | refine OW_moveV (.string _) rfl ?_ | refine OW_moveV (.agg _) rfl ?_ | refine OW_moveV (.tuple _) rfl ?_ | refine OW_nil ?_ | refine thenE_normal ?_ | refine CW_seq ?_ | refine CW_region (by kernel_rfl) ?_ | refine OW_assignV (.int _ _) rfl ?_ | refine OW_assignV (.slice _ _ _) rfl ?_ | refine OW_assignV (.bool _) rfl ?_ | refine OW_assignV (.pointer _) rfl ?_ | refine OW_assignV (.string _) rfl ?_ | refine OW_assignV (.agg _) rfl ?_ | refine OW_assignV (.tuple _) rfl ?_ | refine OW_addI rfl rfl (by omega) ?_ | refine OW_subI rfl rfl (by omega) ?_ | refine OW_mulI rfl rfl (by omega) ?_ | refine OW_lss rfl rfl ?_ | refine OW_extract rfl rfl ?_ | refine OW_gtr rfl rfl ?_ | refine OW_leq rfl rfl ?_ | refine OW_geq rfl rfl ?_ | refine OW_eql rfl rfl ?_ | refine OW_neq rfl rfl ?_ | refine OW_not rfl ?_ | refine OW_pickT rfl _ rfl ?_ | refine OW_pickF rfl (.bool _) rfl ?_ | refine OW_pickB rfl rfl rfl ?_ | refine OW_move ?_ | refine OW_assign ?_ | refine OW_pass rfl ?_ | refine OW_take rfl ?_ | refine OW_lenS (by first | with_reducible exact und_bytes | with_reducible exact und_bytess) rfl ?_ | refine OW_convInt (by first | with_reducible exact und_u8 | with_reducible exact und_u64 | with_reducible exact und_int | with_reducible exact und_u32) (by first | with_reducible exact und_u8 | with_reducible exact und_u64 | with_reducible exact und_int | with_reducible exact und_u32) rfl ?_ | refine OW_add rfl rfl ?_ | refine OW_sub rfl rfl ?_ | refine OW_mul rfl rfl ?_ | refine OW_min2 rfl rfl ?_ | refine OW_max2 rfl rfl ?_ | refine OW_neg rfl ?_ | refine CW_block ?_ | refine CW_condT rfl ?_ | refine CW_condF rfl ?_ | refine CW_exit ?_ | refine CW_ret ?_ | refine CW_skip ?_ | refine LW_seq ?_ | refine LW_regC ?_ | refine LW_condC ?_ | refine LW_regF ?_ | refine LW_condF ?_ | refine FW_seq ?_ | refine FW_region (by kernel_rfl) ?_ | refine FW_block ?_ | refine FW_condT rfl ?_ | refine FW_condF rfl ?_ | refine FW_exit ?_ | refine FW_ret ?_ | refine FW_skip ?_ | refine LW_ret ?_ | refine LW_skip ?_ | refine thenE_exit ?_ | refine thenE_ret ?_ | refine inBlockE_normal ?_ | refine inBlockE_same ?_ | refine inBlockE_ret ?_ | refine inBlockE_ne (by rfl) ?_ | refine OW_eqlB (by with_reducible exact und_bool) rfl rfl ?_ | refine OW_neqB (by with_reducible exact und_bool) rfl rfl ?_ | refine OW_idxS (by with_reducible exact und_bytes) one_u8 rfl rfl _ rfl (by omega) ?_ | refine OW_idxS (by with_reducible exact und_bytess) one_bytes rfl rfl _ rfl (by omega) ?_ | refine OW_load1 (by first | with_reducible exact one_u8 | with_reducible exact one_bytes) rfl _ (by assumption) ?_ | (refine OW_isLoad ?_; refine OW_loadBk (by first | with_reducible exact s_int | with_reducible exact one_u8 | with_reducible exact one_grants) rfl (by assumption) _ (by rfl) ?_) | refine OW_load1 s_int rfl _ (by assumption) ?_)
         refine OW_nil ?_
         exact stay_mk _ _ _ _)
    | (apply OY_qtake _ rfl rfl
       · intro wd hwd
         (first | refine OW_neqQF s_eqr_Tag rfl rfl (by assumption) (by assumption) ?_ | refine OW_neqQT s_eqr_Tag rfl rfl (by assumption) (by assumption) (by assumption) ?_ | refine OW_eqlIF rfl rfl (by assumption) ?_ | refine OW_neqIF rfl rfl (by assumption) ?_ | refine OW_neqIT rfl rfl (by assumption) ?_ | refine OW_fieldO fldo_G0 rfl ?_ | refine OW_fieldO fldo_G1 rfl ?_ | (refine OW_isLoad ?_; refine OW_loadM (by first | with_reducible exact agg_Grant | with_reducible exact s_agg_Tag | with_reducible exact agg_Token) rfl (by first | assumption | (apply_assumption; assumption)) ?_) | refine OW_idxN und_Grants el_Grant rfl rfl 0 rfl (by omega) ?_ | refine OW_sliceP h_slp_Tag rfl ?_ | refine OW_slicePOT a_slp_TagT rfl ?_ | refine OW_fieldB fldo_G0 rfl ?_ | refine OW_fieldB fldo_G1 rfl ?_ | refine OW_fieldB fldo_G2 rfl ?_ | refine OW_fieldB fldo_T0 rfl ?_ | refine OW_fieldB fldo_T1 rfl ?_ | refine OW_fieldB fldo_T2 rfl ?_ | refine OW_lenS und_Grants rfl ?_ | refine OW_idxN und_Grants el_Grant rfl rfl _ rfl (by omega) ?_ | refine OW_moveV (.int _ _) rfl ?_ | refine OW_moveV (.slice _ _ _) rfl ?_ | refine OW_moveV (.bool _) rfl ?_ | refine OW_moveV (.pointer _) rfl ?_ | refine OW_moveV (.string _) rfl ?_ | refine OW_moveV (.agg _) rfl ?_ | refine OW_moveV (.tuple _) rfl ?_ | refine OW_nil ?_ | refine thenE_normal ?_ | refine CW_seq ?_ | refine CW_region (by kernel_rfl) ?_ | refine OW_assignV (.int _ _) rfl ?_ | refine OW_assignV (.slice _ _ _) rfl ?_ | refine OW_assignV (.bool _) rfl ?_ | refine OW_assignV (.pointer _) rfl ?_ | refine OW_assignV (.string _) rfl ?_ | refine OW_assignV (.agg _) rfl ?_ | refine OW_assignV (.tuple _) rfl ?_ | refine OW_addI rfl rfl (by omega) ?_ | refine OW_subI rfl rfl (by omega) ?_ | refine OW_mulI rfl rfl (by omega) ?_ | refine OW_lss rfl rfl ?_ | refine OW_extract rfl rfl ?_ | refine OW_gtr rfl rfl ?_ | refine OW_leq rfl rfl ?_ | refine OW_geq rfl rfl ?_ | refine OW_eql rfl rfl ?_ | refine OW_neq rfl rfl ?_ | refine OW_not rfl ?_ | refine OW_pickT rfl _ rfl ?_ | refine OW_pickF rfl (.bool _) rfl ?_ | refine OW_pickB rfl rfl rfl ?_ | refine OW_move ?_ | refine OW_assign ?_ | refine OW_pass rfl ?_ | refine OW_take rfl ?_ | refine OW_lenS (by first | with_reducible exact und_bytes | with_reducible exact und_bytess) rfl ?_ | refine OW_convInt (by first | with_reducible exact und_u8 | with_reducible exact und_u64 | with_reducible exact und_int | with_reducible exact und_u32) (by first | with_reducible exact und_u8 | with_reducible exact und_u64 | with_reducible exact und_int | with_reducible exact und_u32) rfl ?_ | refine OW_add rfl rfl ?_ | refine OW_sub rfl rfl ?_ | refine OW_mul rfl rfl ?_ | refine OW_min2 rfl rfl ?_ | refine OW_max2 rfl rfl ?_ | refine OW_neg rfl ?_ | refine CW_block ?_ | refine CW_condT rfl ?_ | refine CW_condF rfl ?_ | refine CW_exit ?_ | refine CW_ret ?_ | refine CW_skip ?_ | refine LW_seq ?_ | refine LW_regC ?_ | refine LW_condC ?_ | refine LW_regF ?_ | refine LW_condF ?_ | refine FW_seq ?_ | refine FW_region (by kernel_rfl) ?_ | refine FW_block ?_ | refine FW_condT rfl ?_ | refine FW_condF rfl ?_ | refine FW_exit ?_ | refine FW_ret ?_ | refine FW_skip ?_ | refine LW_ret ?_ | refine LW_skip ?_ | refine thenE_exit ?_ | refine thenE_ret ?_ | refine inBlockE_normal ?_ | refine inBlockE_same ?_ | refine inBlockE_ret ?_ | refine inBlockE_ne (by rfl) ?_ | refine OW_eqlB (by with_reducible exact und_bool) rfl rfl ?_ | refine OW_neqB (by with_reducible exact und_bool) rfl rfl ?_ | refine OW_idxS (by with_reducible exact und_bytes) one_u8 rfl rfl _ rfl (by omega) ?_ | refine OW_idxS (by with_reducible exact und_bytess) one_bytes rfl rfl _ rfl (by omega) ?_ | refine OW_load1 (by first | with_reducible exact one_u8 | with_reducible exact one_bytes) rfl _ (by assumption) ?_ | (refine OW_isLoad ?_; refine OW_loadBk (by first | with_reducible exact s_int | with_reducible exact one_u8 | with_reducible exact one_grants) rfl (by assumption) _ (by rfl) ?_) | refine OW_load1 s_int rfl _ (by assumption) ?_ | (refine OW_isLoad ?_; refine OW_loadBk (by first | with_reducible exact one_u8 | with_reducible exact one_bytes | with_reducible exact one_bool | with_reducible exact one_int | with_reducible exact one_errno | with_reducible exact one_u32 | with_reducible exact one_u64 | with_reducible exact one_string | with_reducible exact s_int | with_reducible exact one_u8 | with_reducible exact one_grants) rfl (by apply_assumption; assumption) _ (by first | assumption | rfl) ?_) | refine OW_load1 (by first | with_reducible exact one_u8 | with_reducible exact one_bytes | with_reducible exact one_bool | with_reducible exact one_int | with_reducible exact one_errno | with_reducible exact one_u32 | with_reducible exact one_u64 | with_reducible exact one_string | with_reducible exact s_int | with_reducible exact one_u8 | with_reducible exact one_grants) rfl _ (by apply_assumption; assumption) ?_)
         refine OW_nil ?_
         exact stay_mk _ _ _ _)
    | refine OY_a (actY_of rfl ?_)
    | refine OY_d (actY_of rfl ?_)
    | refine OY_a (actY_pass rfl rfl ?_)
    | refine OY_d (actY_pass rfl rfl ?_)
    | refine OY_a (actY_take rfl rfl ?_)
    | refine OY_d (actY_take rfl rfl ?_))
  exact hEnd.out) (k : B) : A := h ⟨k⟩
section
variable {P : Program} {ops : Array Oper} {Q : Exit → (Nat → Value) → World → Prop} {rest : List Oper} {e : Nat → Value} {w : World} {d : Tmp} {ty : TypeId} {pos : String} {aft : Array Edge}
theorem OW_eqlIF {x y : Operand} {t t' : TypeId} {k : IntKind} {a b : Int} (hx : ev e x = .int k a) (hy : ev e y = .int k b) (hab : ¬ a = b) (h : OW P ops Q rest (upd e d (.bool false)) w) : OW P ops Q (⟨some d, .binOp .eql t x y t', ty, pos, aft, none⟩ :: rest) e w := by
  refine OW_eql hx hy ?_
  rw [beq_eq_false_iff_ne.2 hab]
  exact h
end
/-- What is printed ahead of the k-th grant. -/
def preT (t : TK) (k : Nat) : List UInt8 := numsB [t.ten, t.line.length] ++ ((t.line.take k).map grantB).flatten
theorem preT_len (t : TK) (k : Nat) : (preT t k).length = 16 + 24 * (t.line.take k).length := by
  unfold preT
  rw [List.length_append, numsB_length, flat_grants_len]
  rfl
theorem preT_succ (t : TK) {k : Nat} (h : k < t.line.length) : preT t k ++ grantB t.line[k] = preT t (k + 1) := by
  unfold preT
  rw [List.take_succ_eq_append_getElem h, List.map_append, List.flatten_append, List.append_assoc]
  simp
theorem preT_end {t : TK} (h : mayT t = true) : preT t t.line.length ++ t.tag = printT t := by
  unfold preT printT
  rw [if_pos h, List.take_length, List.append_assoc]
theorem printT_no {t : TK} (h : mayT t = false) : printT t = [] := by
  unfold printT
  rw [h, if_neg (by decide)]
set_option maxHeartbeats 8000000 in
theorem tokPrint_any (w : World) (B : Option Addr) (cB : Nat) (t : TK) (hB : GRd w B t.line) (hcB : t.line.length ≤ cB) (hn : t.line.length ≤ 10000) (htg : t.tag.length = 32) : Calls Try.prog 45 #[.agg (tcells t (.slice B t.line.length cB)).toArray] w (RetBs 5 w (printT t)) := by
  have hTl := tcells_length htg (.slice B t.line.length cB)
  refine calls_of_CW Try.func45 rfl (by simp [Try.ntmps45]) ?_
  rw [Try.ntmps45]
  refine go_Tok6 (k := ?_)
  refine OW_box _ rfl ?_
  intro w1 g1 hb1 hg1 hlt1 hx1
  have hb1 : Blk w1 g1 45 (tcells t (.slice B t.line.length cB)).toArray := hb1
  refine go_Tok6 (k := ?_)
  refine OW_loadX agg_Token rfl (tcells t (.slice B t.line.length cB)) hTl hb1.atL ?_
  refine go_Tok6 (k := ?_)
  refine OW_callV Try.func75 (by kernel_rfl) rfl (tMay_any w1 t B cB (hB.ext hx1) (by omega)) rfl ?_
  intro w2 hx2
  have hx02 := hx1.trans' hx2
  replace hb1 := hb1.ext hx2
  cases hm : mayT t with
  | false =>
    rw [printT_no hm]
    refine go_Tok6 (k := ?_)
    exact bodyE_ret1 rfl (.slice none 0 0) rfl ⟨none, 0, rfl, World.ownsRow_nil _ _ _ _, hx02⟩
  | true =>
  have hp := mayT_parts hm
  have he := preT_end hm
  have hpl := fun k => preT_len t k
  have hp0 : preT t 0 = numsB [t.ten, t.line.length] := by unfold preT; simp
  refine go_Tok6 (k := ?_)
  refine OW_lit [.int .i64 t.ten, .int .i64 t.line.length] und_ints a_info_intT rfl rfl (by simp [Value.oneCell']) (by decide) ?_
  intro w3 g3 hb3 hg3 hx3
  have hN := tokNums_any w3 (some ⟨g3, 0, none⟩) 2 [t.ten, t.line.length] (by unfold Is; simpa [iv] using hb3.rd) (by show 2 ≤ 1000; decide)
  rw [← hp0] at hN
  clear hb3
  refine go_Tok6 (k := ?_)
  refine OW_callBs Try.func87 (by kernel_rfl) rfl hN rfl ?_
  intro w4 A4 c4 hf4
  have hx04 := hx02.trans' (hx3.trans' hf4.ext)
  replace hb1 := hb1.ext (hx3.trans' hf4.ext)
  have ho4 := own_mono hf4.own (show w.heap.size ≤ w3.heap.size from (hx02.trans' hx3).size)
  refine go_Tok6 (k := ?_)
  refine CW_loop (fun e' w' => ∃ (k : Nat) (A : Option Addr) (c : Nat), k ≤ t.line.length ∧ e' 1 = .pointer (some ⟨g1, 0, none⟩) ∧ e' 3 = .slice A (preT t k).length c ∧ e' 17 = .slice B t.line.length cB ∧ e' 18 = .int .i64 t.line.length ∧ e' 19 = .int .i64 k ∧ Blk w' g1 45 (tcells t (.slice B t.line.length cB)).toArray ∧ w'.ownsRow w.heap.size 5 1 (.slice A (preT t k).length c) (preT t k).length ((preT t k).map bv) ∧ Ext w w') (fun e' _ => t.line.length - (intOf (e' 19)).toNat) ⟨0, A4, c4, Nat.zero_le _, rfl, rfl, rfl, rfl, rfl, hb1, ho4, hx04⟩ ?_
  clear hb1 ho4 hx04 hf4 hx3 hN
  rintro e5 w5 ⟨k, A, c, hk, q1, q3, q17, q18, q19, hb1, ho, hx05⟩
  rw [upd_self q1, upd_self q3, upd_self q17, upd_self q18, upd_self q19]
  refine go_Tok6 (k := ?_)
  refine CW_cond _ rfl (fun hh => ?_) (fun hh => ?_)
  · have hlt : k < t.line.length := by have := of_decide_eq_true hh; omega
    clear hh q1 q3 q17 q18 q19
    obtain ⟨ad, hAd, hat⟩ := (hB.ext hx05).at_ hlt
    have hsucc := preT_succ t hlt
    have hzl : (preT t k).length ≤ 1000 := by rw [hpl, List.length_take]; omega
    generalize t.line[k] = gk at *
    generalize preT t k = z at *
    have hgk := gAt hat
    subst hAd
    refine go_Tok6 (k := ?_)
    refine OW_allocA agg_Grant ?_
    intro w6 g6 hb6 hg6 hlt6 hx6
    refine go_Tok6 (k := ?_)
    refine OW_storeA agg_Grant rfl (gcells gk) rfl rfl hb6 (by kernel_rfl) (gcells_one _) ?_
    intro w7 hb7 hgr7
    have hx57 : Ext w5 w7 := (Keeps.of_only hgr7 (S := (· = g6)) rfl).ext hx6 (fun j hj => by have hj : j = g6 := hj; omega)
    have hx07 := hx05.trans' hx57
    replace hb1 := hb1.ext hx57
    replace ho := own_ext ho hx57
    refine go_Tok6 (k := ?_)
    refine OW_loadX agg_Grant rfl (gcells gk) rfl hb7.atL ?_
    refine go_Tok6 (k := ?_)
    refine OW_callBs Try.func79 (by kernel_rfl) rfl (tokGrant_any w7 gk) rfl ?_
    intro w8 A8 c8 hf8
    have hx08 := hx07.trans' hf8.ext
    refine go_Tok6 (k := ?_)
    refine OW_apU rfl rfl (own_ext ho hf8.ext) hf8.bs (by rw [grantB_len]; omega) hx08.size ?_
    intro w9 A9 c9 ho9 hT9 hbel9
    rw [hsucc] at ho9 ⊢
    have hb9 := hT9 _ _ _ (by decide) (hb1.ext hf8.ext)
    refine go_Tok6 (k := ?_)
    refine ⟨⟨k + 1, A9, c9, by omega, rfl, rfl, rfl, rfl, rfl, hb9, ho9, hx08.trans hbel9⟩, ?_⟩
    show t.line.length - ((k : Int) + 1).toNat < t.line.length - (k : Int).toNat
    omega
  · have hge : k = t.line.length := by have := of_decide_eq_false hh; omega
    rw [hge] at ho ⊢
    have hzl : (preT t t.line.length).length ≤ 1000 := by rw [hpl, List.length_take]; omega
    generalize preT t t.line.length = z at *
    clear hh q1 q3 q17 q18 q19
    refine go_Tok6 (k := ?_)
    refine OW_apU (l' := t.tag) rfl (by rw [htg]; rfl) ho (at_bsT (tag_in hb1)) (by rw [htg]; omega) hx05.size ?_
    intro w9 A9 c9 ho9 hT9 hbel9
    rw [he] at ho9 ⊢
    refine go_Tok6 (k := ?_)
    exact bodyE_ret1 rfl (.slice A9 _ c9) rfl ⟨A9, c9, rfl, ho9, hx05.trans hbel9⟩
set_option maxHeartbeats 8000000 in
theorem refPrint_any (w : World) (B : Option Addr) (cB : Nat) (t : TK) (hB : GRd w B t.line) (hcB : t.line.length ≤ cB) (hn : t.line.length ≤ 10000) (htg : t.tag.length = 32) : Calls Try.prog 44 #[.agg (tcells t (.slice B t.line.length cB)).toArray] w (RetBs 5 w (printT t)) := by
  have hTl := tcells_length htg (.slice B t.line.length cB)
  refine calls_of_CW Try.func44 rfl (by simp [Try.ntmps44]) ?_
  rw [Try.ntmps44]
  refine go_Tok6 (k := ?_)
  refine OW_box _ rfl ?_
  intro w1 g1 hb1 hg1 hlt1 hx1
  have hb1 : Blk w1 g1 45 (tcells t (.slice B t.line.length cB)).toArray := hb1
  refine go_Tok6 (k := ?_)
  refine OW_loadX agg_Token rfl (tcells t (.slice B t.line.length cB)) hTl hb1.atL ?_
  refine go_Tok6 (k := ?_)
  refine OW_callV Try.func77 (by kernel_rfl) rfl (ref9May_any w1 t B cB (hB.ext hx1) (by omega)) rfl ?_
  intro w2 hx2
  have hx02 := hx1.trans' hx2
  replace hb1 := hb1.ext hx2
  cases hm : mayT t with
  | false =>
    rw [printT_no hm]
    refine go_Tok6 (k := ?_)
    exact bodyE_ret1 rfl (.slice none 0 0) rfl ⟨none, 0, rfl, World.ownsRow_nil _ _ _ _, hx02⟩
  | true =>
  have hp := mayT_parts hm
  have he := preT_end hm
  have hpl := fun k => preT_len t k
  have hp0 : preT t 0 = numsB [t.ten, t.line.length] := by unfold preT; simp
  refine go_Tok6 (k := ?_)
  have hN2 : putL (u64N t.ten) 8 ++ putL (u64N t.line.length) 8 = preT t 0 := by rw [hp0]; simp [numsB]
  have l1 := putL_length (u64N t.ten) 8
  have l2 := putL_length (u64N t.line.length) 8
  have hNa := fun v => refNumber_any v t.ten
  have hNb := fun v => refNumber_any v t.line.length
  generalize putL (u64N t.ten) 8 = z1 at *
  generalize putL (u64N t.line.length) 8 = z2 at *
  obtain ⟨C, hC⟩ : ∃ C : World → Prop, C = fun v => Ext w2 v := ⟨_, rfl⟩
  have y_hb1 := blkE hC hb1
  refine CW_tree2 [1, 4] (.p 0 (.q 1 (.p 3 (.q 4 (.p 5 (.a 2 (.d 6 (.d 7 (.p 8 .done))))))))) (C) (by kernel_rfl) (by kernel_rfl) (by kernel_rfl) ?_ ?_
  · exact inE hC
  intro w3 hx3 h_C
  refine oy_Tok6 (k := ?_)
  refine OW_callBs Try.func83 (by kernel_rfl) rfl (hNa w3) rfl ?_
  intro w4 A4 c4 hf4
  have hy4 := hx3.trans' hf4.ext
  have ho4 := own_mono hf4.own (show w2.heap.size ≤ w3.heap.size from hx3.size)
  first | refine OW_nil (goY_mkE hC (hy4) ?_) | refine OW_nil (goY_dropE hC (hy4) ?_)
  refine oy_Tok6 (k := ?_)
  refine OW_callBs Try.func83 (by kernel_rfl) rfl (hNb w4) rfl ?_
  intro w5 A5 c5 hf5
  have hy5 := hy4.trans' hf5.ext
  first | refine OW_nil (goY_mkE hC (hy5) ?_) | refine OW_nil (goY_dropE hC (hy5) ?_)
  refine oy_Tok6 (k := ?_)
  refine OW_apU rfl rfl (own_ext ho4 hf5.ext) hf5.bs (by omega) hy5.size ?_
  intro w6 A6 c6 ho6 hT6 hbel6
  rw [hN2] at ho6 ⊢
  have hy6 : Ext w2 w6 := hy5.trans hbel6
  first | refine OW_nil (goY_mkE hC (hy6) ?_) | refine OW_nil (goY_dropE hC (hy6) ?_)
  refine oy_Tok6 (k := ?_)
  have hx06 := hx02.trans' hy6
  replace hb1 := hb1.ext hy6
  have ho := own_mono ho6 hx02.size
  clear y_hb1 hC h_C C hNa hNb hf4 hf5 ho4 hT6 ho6
  refine go_Tok6 (k := ?_)
  refine CW_loop (fun e' w' => ∃ (k : Nat) (A : Option Addr) (c : Nat), k ≤ t.line.length ∧ e' 1 = .pointer (some ⟨g1, 0, none⟩) ∧ e' 3 = .slice A (preT t k).length c ∧ e' 4 = .int .i64 k ∧ Blk w' g1 45 (tcells t (.slice B t.line.length cB)).toArray ∧ w'.ownsRow w.heap.size 5 1 (.slice A (preT t k).length c) (preT t k).length ((preT t k).map bv) ∧ Ext w w') (fun e' _ => t.line.length - (intOf (e' 4)).toNat) ⟨0, A6, c6, Nat.zero_le _, rfl, rfl, rfl, hb1, ho, hx06⟩ ?_
  clear hb1 ho hx06
  rintro e5 w5 ⟨k, A, c, hk, q1, q3, q4, hb1, ho, hx05⟩
  rw [upd_self q1, upd_self q3, upd_self q4]
  refine go_Tok6 (k := ?_)
  refine CW_cond _ rfl (fun hh => ?_) (fun hh => ?_)
  · have hlt : k < t.line.length := by have := of_decide_eq_true hh; omega
    clear hh q1 q3 q4
    obtain ⟨ad, hAd, hat⟩ := (hB.ext hx05).at_ hlt
    have hsucc := preT_succ t hlt
    have hzl : (preT t k).length ≤ 1000 := by rw [hpl, List.length_take]; omega
    generalize t.line[k] = gk at *
    generalize preT t k = z at *
    have hgk := gAt hat
    subst hAd
    refine go_Tok6 (k := ?_)
    refine OW_callBs Try.func82 (by kernel_rfl) rfl (refGrant_any w5 gk) rfl ?_
    intro w8 A8 c8 hf8
    have hx08 := hx05.trans' hf8.ext
    refine go_Tok6 (k := ?_)
    refine OW_apU rfl rfl (own_ext ho hf8.ext) hf8.bs (by rw [grantB_len]; omega) hx08.size ?_
    intro w9 A9 c9 ho9 hT9 hbel9
    rw [hsucc] at ho9 ⊢
    have hb9 := hT9 _ _ _ (by decide) (hb1.ext hf8.ext)
    refine go_Tok6 (k := ?_)
    refine ⟨⟨k + 1, A9, c9, by omega, rfl, rfl, rfl, hb9, ho9, hx08.trans hbel9⟩, ?_⟩
    show t.line.length - ((k : Int) + 1).toNat < t.line.length - (k : Int).toNat
    omega
  · have hge : k = t.line.length := by have := of_decide_eq_false hh; omega
    rw [hge] at ho ⊢
    have hzl : (preT t t.line.length).length ≤ 1000 := by rw [hpl, List.length_take]; omega
    generalize preT t t.line.length = z at *
    clear hh q1 q3 q4
    refine go_Tok6 (k := ?_)
    refine OW_apU (l' := t.tag) rfl (by rw [htg]; rfl) ho (at_bsT (tag_in hb1)) (by rw [htg]; omega) hx05.size ?_
    intro w9 A9 c9 ho9 hT9 hbel9
    rw [he] at ho9 ⊢
    refine go_Tok6 (k := ?_)
    exact bodyE_ret1 rfl (.slice A9 _ c9) rfl ⟨A9, c9, rfl, ho9, hx05.trans hbel9⟩
set_option maxHeartbeats 8000000 in
theorem tokCheck_any (w : World) (A B : Option Addr) (cA cB : Nat) (key : List UInt8) (t : TK) (ha : Bs w A key) (hca : key.length ≤ cA) (hla : key.length ≤ 80000) (hB : GRd w B t.line) (hcB : t.line.length ≤ cB) (hn : t.line.length ≤ 10000) (htg : t.tag.length = 32) :
    Calls Try.prog 38 #[.slice A key.length cA, .agg (tcells t (.slice B t.line.length cB)).toArray] w (RetV w (.int .i64 (checkT key t))) := by
  have hTl := tcells_length htg (.slice B t.line.length cB)
  have htl := tagL_len key t.ten t.line
  unfold checkT
  refine calls_of_CW Try.func38 rfl (by simp [Try.ntmps38]) ?_
  rw [Try.ntmps38]
  refine go_Tok6 (k := ?_)
  refine OW_box _ rfl ?_
  intro w1 g3 hb3 hg3 hlt3 hx1
  have hb3 : Blk w1 g3 45 (tcells t (.slice B t.line.length cB)).toArray := hb3
  refine go_Tok6 (k := ?_)
  refine OW_loadX agg_Token rfl (tcells t (.slice B t.line.length cB)) hTl hb3.atL ?_
  refine go_Tok6 (k := ?_)
  refine OW_callV Try.func75 (by kernel_rfl) rfl (tMay_any w1 t B cB (hB.ext hx1) (by omega)) rfl ?_
  intro w2 hx2
  have hx02 := hx1.trans' hx2
  replace hb3 := hb3.ext hx2
  cases hm : mayT t with
  | false =>
    rw [if_neg (by decide)]
    refine go_Tok6 (k := ?_)
    exact bodyE_ret1 rfl (.int .i64 90) rfl ⟨rfl, hx02⟩
  | true =>
  have hp := mayT_parts hm
  rw [if_pos rfl]
  have hTag := fun v (hv : Ext w v) => tokTag_any v A B cA cB key t (ha.ext hv) hca (by omega) (hB.ext hv) hcB hp.2.2.1 (by omega) htg
  generalize tagL key t.ten t.line = X at *
  refine go_Tok6 (k := ?_)
  obtain ⟨C, hC⟩ : ∃ C : World → Prop, C = fun v => Ext w2 v := ⟨_, rfl⟩
  have yT : ∀ v, C v → AtM v ⟨g3, 0, none⟩ (tcells t (.slice B t.line.length cB)) 34 := by rw [hC]; exact fun v hv => ⟨(hb3.ext hv).atL, hTl⟩
  have yt : ∀ v, C v → AtM v ⟨g3, 2, none⟩ (t.tag.map bv) 32 := by rw [hC]; exact fun v hv => tag_inM (hb3.ext hv) htg
  refine CW_tree2 [1, 4] (.p 0 (.q 1 (.p 3 (.q 4 (.a 2 (.d 5 (.p 6 (.p 7 .done)))))))) (C) (by kernel_rfl) (by kernel_rfl) (by kernel_rfl) ?_ ?_
  · exact inE hC
  intro w3 hx3 h_C
  refine oy_Tok6 (k := ?_)
  refine OW_callV Try.func76 (by kernel_rfl) rfl (hTag w3 (hx02.trans' hx3)) rfl ?_
  intro w4 hx4
  have hy4 := hx3.trans' hx4
  first | refine OW_nil (goY_mkE hC (hy4) ?_) | refine OW_nil (goY_dropE hC (hy4) ?_)
  refine oy_Tok6 (k := ?_)
  refine OW_callV Try.func60 (by kernel_rfl) rfl (hsame_any w4 X t.tag htl htg) rfl ?_
  intro w5 hx5
  have hy5 := hy4.trans' hx5
  by_cases hX : X = t.tag
  · rw [if_pos hX, show (X == t.tag) = true from beq_iff_eq.2 hX]
    first | refine OW_nil (goY_mkE hC (hy5) ?_) | refine OW_nil (goY_dropE hC (hy5) ?_)
    refine oy_Tok6 (k := ?_)
    refine go_Tok6 (k := ?_)
    exact bodyE_ret1 rfl (.int .i64 0) rfl ⟨rfl, hx02.trans' hy5⟩
  · rw [if_neg hX, show (X == t.tag) = false from beq_eq_false_iff_ne.2 hX]
    first | refine OW_nil (goY_mkE hC (hy5) ?_) | refine OW_nil (goY_dropE hC (hy5) ?_)
    refine oy_Tok6 (k := ?_)
    refine go_Tok6 (k := ?_)
    exact bodyE_ret1 rfl (.int .i64 91) rfl ⟨rfl, hx02.trans' hy5⟩
theorem check_may {key : List UInt8} {t : TK} (h : checkT key t = 0) : mayT t = true ∧ lineOk t.line = true := by
  unfold checkT at h
  cases hm : mayT t with
  | false => rw [hm, if_neg (by decide)] at h; exact absurd h (by decide)
  | true =>
    refine ⟨rfl, ?_⟩
    unfold mayT at hm
    rw [Bool.and_eq_true] at hm
    exact hm.2
set_option maxHeartbeats 8000000 in
theorem tokVerify_any (w : World) (A B : Option Addr) (cA cB : Nat) (key : List UInt8) (t : TK) (now : Int) (need : UInt8) (ha : Bs w A key) (hca : key.length ≤ cA) (hla : key.length ≤ 80000) (hB : GRd w B t.line) (hcB : t.line.length ≤ cB) (hn : t.line.length ≤ 10000) (htg : t.tag.length = 32) :
    Calls Try.prog 39 #[.slice A key.length cA, .agg (tcells t (.slice B t.line.length cB)).toArray, .int .i64 now, bv need] w (RetV w (.int .i64 (verT key t now need))) := by
  have hTl := tcells_length htg (.slice B t.line.length cB)
  unfold verT
  refine calls_of_CW Try.func39 rfl (by simp [Try.ntmps39]) ?_
  rw [Try.ntmps39]
  refine go_Tok6 (k := ?_)
  refine OW_box _ rfl ?_
  intro w1 g3 hb3 hg3 hlt3 hx1
  have hb3 : Blk w1 g3 45 (tcells t (.slice B t.line.length cB)).toArray := hb3
  refine go_Tok6 (k := ?_)
  refine OW_loadX agg_Token rfl (tcells t (.slice B t.line.length cB)) hTl hb3.atL ?_
  refine go_Tok6 (k := ?_)
  refine OW_callV Try.func38 (by kernel_rfl) rfl (tokCheck_any w1 A B cA cB key t (ha.ext hx1) hca hla (hB.ext hx1) hcB hn htg) rfl ?_
  intro w2 hx2
  have hx02 := hx1.trans' hx2
  replace hb3 := hb3.ext hx2
  have hcm := fun h => check_may (key := key) (t := t) h
  obtain ⟨ck, hck⟩ : ∃ ck, checkT key t = ck := ⟨_, rfl⟩
  rw [hck] at hcm ⊢
  by_cases h0 : ck = 0
  rotate_left 1
  · rw [if_neg h0]
    refine go_Tok6 (k := ?_)
    exact bodyE_ret1 rfl (.int .i64 ck) rfl ⟨rfl, hx02⟩
  obtain ⟨hm, hlo⟩ := hcm h0
  rw [if_pos h0]
  have hLv := rLeaves_any w2 B cB t.line (hB.ext hx02) (by omega)
  rw [hlo, if_pos rfl] at hLv
  generalize leavesR t.line = r at *
  generalize leavesE t.line = x at *
  refine go_Tok6 (k := ?_)
  refine OW_callV Try.func85 (by kernel_rfl) rfl hLv rfl ?_
  intro w3 hx3
  have hx03 := hx02.trans' hx3
  refine go_Tok6 (k := ?_)
  refine CW_cond _ rfl (fun hh => ?_) (fun hh => ?_)
  · have := of_decide_eq_true hh
    rw [if_pos this]
    refine go_Tok6 (k := ?_)
    exact bodyE_ret1 rfl (.int .i64 92) rfl ⟨rfl, hx03⟩
  have := of_decide_eq_false hh
  rw [if_neg this]
  refine go_Tok6 (k := ?_)
  refine OW_callV Try.func86 (by kernel_rfl) rfl (rHas_any w3 r need) rfl ?_
  intro w4 hx4
  by_cases hr : need &&& ~~~ r = 0
  · rw [if_pos hr, show (need &&& ~~~ r == 0) = true from beq_iff_eq.2 hr]
    refine go_Tok6 (k := ?_)
    exact bodyE_ret1 rfl (.int .i64 0) rfl ⟨rfl, hx03.trans' hx4⟩
  · rw [if_neg hr, show (need &&& ~~~ r == 0) = false from beq_eq_false_iff_ne.2 hr]
    refine go_Tok6 (k := ?_)
    exact bodyE_ret1 rfl (.int .i64 94) rfl ⟨rfl, hx03.trans' hx4⟩
theorem leaves_one {l : List GD} (h : lineOk l = true) (h0 : 0 < l.length) : leavesR (l.take 1) = l[0].rights ∧ leavesE (l.take 1) = l[0].expiry := by
  obtain ⟨h1, h2, h3⟩ := lineOk_parts h
  have hg := h3 _ (List.getElem_mem h0)
  unfold mayG inR two40 at hg
  simp only [Bool.and_eq_true, decide_eq_true_eq] at hg
  rw [List.take_succ_eq_append_getElem h0, List.take_zero, List.nil_append]
  refine ⟨?_, ?_⟩
  · show (15 : UInt8) &&& l[0].rights = _
    apply UInt8.toNat_inj.1
    rw [UInt8.toNat_and, Nat.and_comm]
    show l[0].rights.toNat &&& 15 = _
    rw [show 15 = 2 ^ 4 - 1 from rfl, Nat.and_two_pow_sub_one_eq_mod]
    omega
  · show min two40 l[0].expiry = _
    unfold two40
    omega
set_option maxHeartbeats 8000000 in
theorem ref8Leaves_any (w : World) (A : Option Addr) (c : Nat) (l : List GD) (hl : GRd w A l) (hok : lineOk l = true) : Calls Try.prog 84 #[.slice A l.length c] w (RetV w (.tuple #[bv (leavesR l), .int .i64 (leavesE l)])) := by
  obtain ⟨n1, n4, _⟩ := lineOk_parts hok
  obtain ⟨o1, o2⟩ := leaves_one hok n1
  have hne : ¬ (l.length : Int) = 0 := by omega
  refine calls_of_CW Try.func84 rfl (by simp [Try.ntmps84]) ?_
  rw [Try.ntmps84]
  refine go_Tok6 (k := ?_)
  obtain ⟨ad, hA, hat⟩ := hl.at_ (i := 0) (by omega)
  subst hA
  generalize l[0] = g0 at *
  have c0 : w.cell? ((ad.add (0 * 3)).add 0) = some (bv g0.rights) := hat 0 _ rfl
  have c1 : w.cell? ((ad.add (0 * 3)).add 1) = some (.int .i64 g0.expiry) := hat 1 _ rfl
  obtain ⟨C, hC⟩ : ∃ C : World → Prop, C = fun v => Ext w v := ⟨_, rfl⟩
  have y_c0 := cellE hC c0
  have y_c1 := cellE hC c1
  refine CW_tree2 [3, 7] (.p 0 (.p 1 (.p 2 (.q 3 (.p 4 (.p 5 (.p 6 (.q 7 (.p 8 (.p 9 .done)))))))))) (C) (by kernel_rfl) (by kernel_rfl) (by kernel_rfl) ?_ ?_
  · exact inE hC
  intro w1 hx1 h_C
  refine oy_Tok6 (k := ?_)
  clear y_c0 y_c1 hC h_C C c0 c1
  refine go_Tok6 (k := ?_)
  refine CW_loop (fun e' w' => ∃ k : Nat, 1 ≤ k ∧ k ≤ l.length ∧ e' 0 = .slice (some ad) l.length c ∧ e' 4 = bv (leavesR (l.take k)) ∧ e' 5 = .int .i64 (leavesE (l.take k)) ∧ e' 6 = .int .i64 k ∧ Ext w w') (fun e' _ => l.length - (intOf (e' 6)).toNat) ⟨1, Nat.le_refl _, n1, rfl, by rw [o1]; rfl, by rw [o2]; rfl, rfl, hx1⟩ ?_
  rintro e' w2 ⟨k, hk1, hk, q0, q4, q5, q6, hx2⟩
  rw [upd_self q0, upd_self q4, upd_self q5, upd_self q6]
  refine go_Tok6 (k := ?_)
  refine CW_cond _ rfl (fun hh => ?_) (fun hh => ?_)
  · have hlt : k < l.length := by have := of_decide_eq_true hh; omega
    clear hh q0 q4 q5 q6 hat
    obtain ⟨ad', hA', hat⟩ := (hl.ext hx2).at_ hlt
    cases hA'
    have hr := leavesR_take hlt
    have he := leavesE_take hlt
    generalize l[k] = g at *
    generalize leavesR (l.take k) = r at *
    generalize leavesE (l.take k) = x at *
    have c0 : w2.cell? ((ad.add (k * 3)).add 0) = some (bv g.rights) := hat 0 _ rfl
    have c1 : w2.cell? ((ad.add (k * 3)).add 1) = some (.int .i64 g.expiry) := hat 1 _ rfl
    refine go_Tok6 (k := ?_)
    refine OW_and rfl rfl _ (and_bv r g.rights) ?_
    refine go_Tok6 (k := ?_)
    refine CW_cond _ rfl (fun hh => ?_) (fun hh => ?_)
    · have := of_decide_eq_true hh
      refine go_Tok6 (k := ?_)
      refine ⟨⟨k + 1, by omega, by omega, rfl, by rw [hr]; rfl, by rw [he, Int.min_eq_right (by omega)]; rfl, rfl, hx2⟩, ?_⟩
      show l.length - ((k : Int) + 1).toNat < l.length - (k : Int).toNat
      omega
    · have := of_decide_eq_false hh
      refine go_Tok6 (k := ?_)
      refine ⟨⟨k + 1, by omega, by omega, rfl, by rw [hr]; rfl, by rw [he, Int.min_eq_left (by omega)]; rfl, rfl, hx2⟩, ?_⟩
      show l.length - ((k : Int) + 1).toNat < l.length - (k : Int).toNat
      omega
  · have hge : k = l.length := by have := of_decide_eq_false hh; omega
    rw [hge, List.take_length]
    refine go_Tok6 (k := ?_)
    exact bodyE_ret2 rfl (bv (leavesR l)) (.int .i64 (leavesE l)) rfl rfl ⟨rfl, hx2⟩
set_option maxHeartbeats 8000000 in
theorem refVerify_any (w : World) (A B : Option Addr) (cA cB : Nat) (key : List UInt8) (t : TK) (now : Int) (need : UInt8) (ha : Bs w A key) (hca : key.length ≤ cA) (hla : key.length ≤ 80000) (hB : GRd w B t.line) (hcB : t.line.length ≤ cB) (hn : t.line.length ≤ 10000) (htg : t.tag.length = 32) :
    Calls Try.prog 37 #[.slice A key.length cA, .agg (tcells t (.slice B t.line.length cB)).toArray, .int .i64 now, bv need] w (RetV w (.int .i64 (verT key t now need))) := by
  have hTl := tcells_length htg (.slice B t.line.length cB)
  have htl := tagL_len key t.ten t.line
  unfold verT checkT
  refine calls_of_CW Try.func37 rfl (by simp [Try.ntmps37]) ?_
  rw [Try.ntmps37]
  refine go_Tok6 (k := ?_)
  refine OW_box _ rfl ?_
  intro w1 g3 hb3 hg3 hlt3 hx1
  have hb3 : Blk w1 g3 45 (tcells t (.slice B t.line.length cB)).toArray := hb3
  refine go_Tok6 (k := ?_)
  refine OW_loadX agg_Token rfl (tcells t (.slice B t.line.length cB)) hTl hb3.atL ?_
  refine go_Tok6 (k := ?_)
  refine OW_callV Try.func77 (by kernel_rfl) rfl (ref9May_any w1 t B cB (hB.ext hx1) (by omega)) rfl ?_
  intro w2 hx2
  have hx02 := hx1.trans' hx2
  replace hb3 := hb3.ext hx2
  cases hm : mayT t with
  | false =>
    rw [if_neg (by decide : ¬ false = true), if_neg (by decide)]
    refine go_Tok6 (k := ?_)
    exact bodyE_ret1 rfl (.int .i64 90) rfl ⟨rfl, hx02⟩
  | true =>
  have hp := mayT_parts hm
  have hlo : lineOk t.line = true := by
    unfold mayT at hm
    rw [Bool.and_eq_true] at hm
    exact hm.2
  rw [if_pos (rfl : true = true)]
  have hTag := fun v (hv : Ext w v) => refTag_any v A B cA cB key t (ha.ext hv) hca hla (hB.ext hv) hcB hp.2.2.1 (by omega) htg
  have hLv := fun v (hv : Ext w v) => ref8Leaves_any v B cB t.line (hB.ext hv) hlo
  generalize tagL key t.ten t.line = X at *
  generalize leavesR t.line = r at *
  generalize leavesE t.line = x at *
  refine go_Tok6 (k := ?_)
  obtain ⟨C, hC⟩ : ∃ C : World → Prop, C = fun v => Ext w2 v := ⟨_, rfl⟩
  have yT : ∀ v, C v → AtM v ⟨g3, 0, none⟩ (tcells t (.slice B t.line.length cB)) 34 := by rw [hC]; exact fun v hv => ⟨(hb3.ext hv).atL, hTl⟩
  have yt : ∀ v, C v → AtM v ⟨g3, 2, none⟩ (t.tag.map bv) 32 := by rw [hC]; exact fun v hv => tag_inM (hb3.ext hv) htg
  refine CW_tree2 [1, 4] (.p 0 (.q 1 (.p 3 (.q 4 (.a 2 (.p 5 .done)))))) (C) (by kernel_rfl) (by kernel_rfl) (by kernel_rfl) ?_ ?_
  · exact inE hC
  intro w3 hx3 h_C
  refine oy_Tok6 (k := ?_)
  refine OW_callV Try.func36 (by kernel_rfl) rfl (hTag w3 (hx02.trans' hx3)) rfl ?_
  intro w4 hx4
  have hy4 := hx3.trans' hx4
  have hx04 := hx02.trans' hy4
  replace hb3 := hb3.ext hy4
  by_cases hX : X = t.tag
  rotate_left 1
  · rw [if_neg hX, if_neg (by decide)]
    first | refine OW_nil (goY_mkE hC (hy4) ?_) | refine OW_nil (goY_dropE hC (hy4) ?_)
    refine oy_Tok6 (k := ?_)
    refine go_Tok6 (k := ?_)
    exact bodyE_ret1 rfl (.int .i64 91) rfl ⟨rfl, hx04⟩
  rw [if_pos hX, if_pos rfl]
  first | refine OW_nil (goY_mkE hC (hy4) ?_) | refine OW_nil (goY_dropE hC (hy4) ?_)
  refine oy_Tok6 (k := ?_)
  clear yT yt hC h_C C
  refine go_Tok6 (k := ?_)
  refine OW_callV Try.func84 (by kernel_rfl) rfl (hLv w4 hx04) rfl ?_
  intro w5 hx5
  have hx05 := hx04.trans' hx5
  refine go_Tok6 (k := ?_)
  refine CW_cond _ rfl (fun hh => ?_) (fun hh => ?_)
  · have := of_decide_eq_true hh
    rw [if_pos this]
    refine go_Tok6 (k := ?_)
    exact bodyE_ret1 rfl (.int .i64 92) rfl ⟨rfl, hx05⟩
  have := of_decide_eq_false hh
  rw [if_neg this]
  by_cases hr : need &&& ~~~ r = 0
  · rw [if_pos hr]
    have hr2 : ((r ||| need).toNat : Int) = r.toNat := by rw [(u8_or need r).2 hr]
    refine go_Tok6 (k := ?_)
    refine OW_or rfl rfl _ (or_bv r need) ?_
    refine go_Tok6 (k := ?_)
    exact bodyE_ret1 rfl (.int .i64 0) rfl ⟨rfl, hx05⟩
  · rw [if_neg hr]
    have hr2 : ¬ ((r ||| need).toNat : Int) = r.toNat := fun h => hr ((u8_or need r).1 (UInt8.toNat_inj.1 (by omega)))
    refine go_Tok6 (k := ?_)
    refine OW_or rfl rfl _ (or_bv r need) ?_
    refine go_Tok6 (k := ?_)
    exact bodyE_ret1 rfl (.int .i64 94) rfl ⟨rfl, hx05⟩
end Go.Proofs.Ytdpcahfgdpikfaa
