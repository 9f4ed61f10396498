/- Regions whose order is drawn, in general: each operation has a fact that lasts ('Phi'), shown from the facts of those that must come ahead of it; whatever order is drawn, all facts hold at the end. A tail that must come last is walked in its order. -/
import Derived.Test.YthhphmbhlddihaaDraw
import Derived.StillTail
namespace Go.Proofs.Ythhphmbhlddihaa
open Go Go.RowKit
set_option linter.unusedVariables false

abbrev Fact := Value → World → Prop
def isV (v : Value) : Fact := fun u _ => u = v
def isBs (l : List UInt8) : Fact := fun u w => ∃ A c, u = .slice A l.length c ∧ l.length ≤ c ∧ Bs w A l
def isAnyF : Fact := fun _ _ => True
def Lasts (φ : Fact) : Prop := ∀ v w w', Ext w w' → φ v w → φ v w'
theorem lasts_isV (v : Value) : Lasts (isV v) := fun _ _ _ _ h => h
theorem lasts_isAny : Lasts isAnyF := fun _ _ _ _ h => h
theorem lasts_isBs (l : List UInt8) : Lasts (isBs l) := fun v w w' he h => by
  obtain ⟨A, c, h1, h2, h3⟩ := h
  exact ⟨A, c, h1, h2, h3.ext he⟩

structure LFact where
  f : Fact
  last : Lasts f
def vF (v : Value) : LFact := ⟨isV v, lasts_isV v⟩
def bF (l : List UInt8) : LFact := ⟨isBs l, lasts_isBs l⟩
def aF : LFact := ⟨isAnyF, lasts_isAny⟩
def dstsOf (l : List Oper) : List Nat := l.filterMap (·.dst)
def acycB (l : List Oper) : Bool := l.zipIdx.all fun x => x.1.after.all fun e => !Region.binds .any e || decide (e.on < x.2)
def nodupB : List Nat → Bool
  | [] => true
  | a :: l => !l.contains a && nodupB l

/-- What is known when operation 'o' comes up. -/
structure Known (ops : Array Oper) (ds : List Nat) (Φ : Nat → Fact) (e0 : Nat → Value) (w0 : World) (o : Oper) (e : Nat → Value) (w : World) : Prop where
  ext : Ext w0 w
  out : ∀ s, ds.contains s = false → e s = e0 s
  pre : ∀ (k : Nat) (d : Tmp), (o.after.toList.any fun ed => Region.binds .any ed && ed.on == k) = true → ((ops[k]?).bind (·.dst)) = some d → Φ k (e d) w
def Obl (P : Program) (ops : Array Oper) (ds : List Nat) (Φ : Nat → Fact) (e0 : Nat → Value) (w0 : World) (i : Nat) (o : Oper) : Prop :=
  ∀ e w, Known ops ds Φ e0 w0 o e w → if wantedE ops e o then opW P o e w (fun v w' => Ext w w' ∧ Φ i v w') else Φ i undef w
def Obls (P : Program) (ops : Array Oper) (ds : List Nat) (Φ : Nat → Fact) (e0 : Nat → Value) (w0 : World) : List Oper → Nat → Prop
  | [], _ => True
  | o :: l, i => Obl P ops ds Φ e0 w0 i o ∧ Obls P ops ds Φ e0 w0 l (i + 1)
theorem Obls.at_ {P : Program} {ops : Array Oper} {ds : List Nat} {Φ : Nat → Fact} {e0 : Nat → Value} {w0 : World} : ∀ {l : List Oper} {k : Nat}, Obls P ops ds Φ e0 w0 l k → ∀ (i : Nat) (o : Oper), l[i]? = some o → Obl P ops ds Φ e0 w0 (k + i) o
  | [], _, _, i, o, h => by simp at h
  | o' :: l, k, hh, 0, o, h => by simp at h; subst h; exact hh.1
  | o' :: l, k, hh, i + 1, o, h => by
    have := Obls.at_ hh.2 i o (by simpa using h)
    rw [show k + (i + 1) = k + 1 + i by omega]
    exact this

section
variable {P : Program} {n : Nat} {ops : Array Oper} {Φ : Nat → Fact} {e0 : Nat → Value} {w0 : World}
/-- What holds while the heads come. -/
structure Inv (ops : Array Oper) (n m : Nat) (ds : List Nat) (Φ : Nat → Fact) (e0 : Nat → Value) (w0 : World) (listed : Array Bool) (a : Act) (w : World) : Prop where
  head : HeadInv .any ops m listed
  st : ∃ e, St n a e ∧ (∀ s, ds.contains s = false → e s = e0 s) ∧ ∀ (i : Nat) (o : Oper) (d : Tmp), ops[i]? = some o → o.dst = some d → listed.getD i false = true → Φ i (e d) w
  ext : Ext w0 w

def unl (m : Nat) (listed : Array Bool) : Nat := ((List.range m).filter fun i => !listed.getD i true).length
theorem filter_one {p : Nat → Bool} {i : Nat} (hp : p i = true) : ∀ (l : List Nat), l.Nodup → i ∈ l → (l.filter fun j => p j && !(j == i)).length + 1 = (l.filter p).length
  | [], _, h => by cases h
  | a :: l, hn, hi => by
    obtain ⟨hn1, hn2⟩ := List.nodup_cons.1 hn
    by_cases ha : a = i
    · subst ha
      have : (l.filter fun j => p j && !(j == a)) = l.filter p := by
        apply List.filter_congr
        intro x hx
        have : x ≠ a := fun h => hn1 (h ▸ hx)
        simp [this]
      simp [hp, this]
    · have hi' : i ∈ l := by
        rcases List.mem_cons.1 hi with h | h
        · exact absurd h.symm ha
        · exact h
      have ih := filter_one hp l hn2 hi'
      by_cases hpa : p a = true
      · simp [hpa, ha]; simpa using ih
      · simp [hpa]; simpa using ih
theorem unl_set {m i : Nat} {listed : Array Bool} (hi : i < m) (hm : m ≤ listed.size) (hu : listed.getD i true = false) : unl m (listed.setIfInBounds i true) + 1 = unl m listed := by
  unfold unl
  rw [← filter_one (p := fun i => !listed.getD i true) (i := i) (by simp only [hu, Bool.not_false]) (List.range m) List.nodup_range (List.mem_range.2 hi)]
  congr 2
  apply List.filter_congr
  intro j hj
  have hj' := List.mem_range.1 hj
  by_cases h : j = i
  · subst h; simp [show j < listed.size by omega]
  · rw [getD_set_ne true (Ne.symm h)]; simp [h]

theorem ready_some {m : Nat} {listed : Array Bool} (hac : acycB ops.toList = true) (hm : m ≤ ops.size) (hsz : listed.size = ops.size) (hu : 0 < unl m listed) : ∃ i, i < m ∧ i ∈ Region.ready .any ops listed := by
  have hex : ∃ i, i < m ∧ listed.getD i true = false := by
    unfold unl at hu
    obtain ⟨i, hi⟩ := List.exists_mem_of_length_pos hu
    rw [List.mem_filter, List.mem_range] at hi
    exact ⟨i, hi.1, by simpa using hi.2⟩
  obtain ⟨i, hi, hun⟩ := hex
  induction i using Nat.strongRecOn with
  | _ i ih =>
    by_cases hall : ∃ j, j < i ∧ listed.getD j true = false
    · obtain ⟨j, hj, hjun⟩ := hall
      exact ih j hj (by omega) hjun
    · refine ⟨i, hi, mem_ready.2 ⟨hun, ops[i]'(by omega), by simp [show i < ops.size by omega], fun e he hb => ?_⟩⟩
      unfold acycB at hac
      rw [List.all_eq_true] at hac
      have h1 := hac (ops[i]'(by omega), i) (by
        rw [List.mem_iff_getElem?]
        exact ⟨i, by simp [show i < ops.size by omega]⟩)
      rw [Array.all_eq_true'] at h1
      have h2 := h1 e he
      simp only [hb, Bool.not_true, Bool.false_or, decide_eq_true_eq] at h2
      have h3 : ¬ listed.getD e.on true = false := fun h => hall ⟨_, h2, h⟩
      have hlt : e.on < listed.size := by omega
      simp [hlt] at h3 ⊢
      exact h3

theorem wpAny_heads {m g : Nat} {Q' : Exit → Act → World → Prop} (hac : acycB ops.toList = true) (hm : m ≤ ops.size) (hdn : dstsIn n ops.toList = true) (hnd : nodupB (dstsOf ops.toList) = true)
    (hready : ∀ listed, HeadInv .any ops m listed → 0 < unl m listed → ∀ i ∈ Region.ready .any ops listed, i < m)
    (hmono : ∀ i, Lasts (Φ i))
    (hops : ∀ i o, i < m → ops[i]? = some o → Obl P ops (dstsOf (ops.toList.take m)) Φ e0 w0 i o)
    (hfin : ∀ listed a w, Inv ops n m (dstsOf (ops.toList.take m)) Φ e0 w0 listed a w → unl m listed = 0 → wpAny P .any ops Q' g listed a w) :
    ∀ (f : Nat) (listed : Array Bool) (a : Act) (w : World), unl m listed = f → Inv ops n m (dstsOf (ops.toList.take m)) Φ e0 w0 listed a w → wpAny P .any ops Q' (f + g) listed a w := by
  intro f
  induction f with
  | zero => intro listed a w hu hI; rw [Nat.zero_add]; exact hfin _ _ _ hI hu
  | succ f ih =>
    intro listed a w hu hI
    rw [show f + 1 + g = (f + g) + 1 by omega]
    obtain ⟨i0, hi0, hr0⟩ := ready_some hac hm hI.head.size (by omega)
    refine ⟨fun h0 => (by rw [h0] at hr0; cases hr0), fun i hi => ?_⟩
    have him := hready listed hI.head (by omega) i hi
    obtain ⟨hun, o, ho, hall⟩ := mem_ready.1 hi
    obtain ⟨e, hs, hout, hfacts⟩ := hI.st
    have hk : Known ops (dstsOf (ops.toList.take m)) Φ e0 w0 o e w := by
      refine ⟨hI.ext, hout, fun k d hk hd => ?_⟩
      rw [List.any_eq_true] at hk
      obtain ⟨ed, hed, hb⟩ := hk
      have hed := Array.mem_toList_iff.1 hed
      simp only [Bool.and_eq_true, beq_iff_eq] at hb
      obtain ⟨hb1, hb2⟩ := hb
      have hl := hall ed hed hb1
      rw [hb2] at hl
      cases hok : ops[k]? with
      | none => rw [hok] at hd; cases hd
      | some ok => rw [hok] at hd; exact hfacts k ok d hok hd hl
    have hobl := hops i o him ho e w hk
    have hdo : ∀ k, o.dst = some k → k < n := by
      intro k hk
      unfold dstsIn at hdn
      rw [List.all_eq_true] at hdn
      have := hdn o (by rw [List.mem_iff_getElem?]; exact ⟨i, by simpa using ho⟩)
      rw [hk] at this
      simpa using this
    have hds : ∀ d, o.dst = some d → (dstsOf (ops.toList.take m)).contains d = true := fun d hd => by
      simp only [List.contains_iff_mem, dstsOf, List.mem_filterMap]
      exact ⟨o, by rw [List.mem_iff_getElem?]; exact ⟨i, by rw [List.getElem?_take, if_pos him]; simpa using ho⟩, hd⟩
    have hother : ∀ (j : Nat) (oj : Oper) (d : Tmp), ops[j]? = some oj → oj.dst = some d → o.dst = some d → j = i := by
      intro j oj d hj hd hd'
      have key : ∀ (l : List Oper) (i j : Nat) (o oj : Oper), nodupB (dstsOf l) = true → l[i]? = some o → l[j]? = some oj → o.dst = some d → oj.dst = some d → i = j := by
        intro l
        induction l with
        | nil => intro i j o oj _ h; simp at h
        | cons x l ihl =>
          intro i j o oj hn hi hj h1 h2
          have hmem : ∀ (k : Nat) (o : Oper), l[k]? = some o → o.dst = some d → d ∈ dstsOf l := fun k o hk ho => by
            simp only [dstsOf, List.mem_filterMap]
            exact ⟨o, List.mem_iff_getElem?.2 ⟨k, hk⟩, ho⟩
          cases i with
          | zero =>
            cases j with
            | zero => rfl
            | succ j =>
              simp at hi hj
              subst hi
              have hx : dstsOf (x :: l) = d :: dstsOf l := by simp [dstsOf, h1]
              rw [hx] at hn
              simp only [nodupB, Bool.and_eq_true, Bool.not_eq_true', List.contains_eq_mem, decide_eq_false_iff_not] at hn
              exact absurd (hmem j oj hj h2) hn.1
          | succ i =>
            cases j with
            | zero =>
              simp at hi hj
              subst hj
              have hx : dstsOf (x :: l) = d :: dstsOf l := by simp [dstsOf, h2]
              rw [hx] at hn
              simp only [nodupB, Bool.and_eq_true, Bool.not_eq_true', List.contains_eq_mem, decide_eq_false_iff_not] at hn
              exact absurd (hmem i o hi h1) hn.1
            | succ j =>
              simp at hi hj
              have hn' : nodupB (dstsOf l) = true := by
                cases hxd : x.dst with
                | none => have hx : dstsOf (x :: l) = dstsOf l := by simp [dstsOf, hxd]
                          rwa [hx] at hn
                | some dx => have hx : dstsOf (x :: l) = dx :: dstsOf l := by simp [dstsOf, hxd]
                             rw [hx] at hn
                             simp only [nodupB, Bool.and_eq_true] at hn
                             exact hn.2
              rw [ihl i j o oj hn' hi hj h1 h2]
      exact (key ops.toList i j o oj hnd (by simpa using ho) (by simpa using hj) hd' hd).symm
    have hlast : ∀ v w', Ext w w' → Φ i v w' → Inv ops n m (dstsOf (ops.toList.take m)) Φ e0 w0 (listed.setIfInBounds i true) (a.put o.dst v) w' := by
      intro v w' hw hv
      refine ⟨hI.head.set hi him, ⟨put e o.dst v, hs.put hdo v, fun s hsn => ?_, fun j oj d hj hd hl => ?_⟩, hI.ext.trans' hw⟩
      · cases hod : o.dst with
        | none => exact hout s hsn
        | some d =>
          have hne : s ≠ d := fun h => by rw [h, hds d hod] at hsn; cases hsn
          show upd e d v s = _
          rw [upd_ne _ _ hne]
          exact hout s hsn
      · cases hod : o.dst with
        | none =>
          have hji : j ≠ i := fun h => by
            subst h
            rw [ho] at hj
            cases hj
            rw [hod] at hd
            cases hd
          rw [getD_set_ne false (Ne.symm hji)] at hl
          exact hmono j _ _ _ hw (hfacts j oj d hj hd hl)
        | some d' =>
          show Φ j (upd e d' v d) w'
          by_cases hdd : d = d'
          · subst hdd
            have hji := hother j oj d hj hd hod
            subst hji
            rw [upd_same]
            exact hv
          · have hji : j ≠ i := fun h => by
              subst h
              rw [ho] at hj
              cases hj
              rw [hod] at hd
              exact hdd (Option.some.inj hd).symm
            rw [upd_ne _ _ hdd]
            rw [getD_set_ne false (Ne.symm hji)] at hl
            exact hmono j _ _ _ hw (hfacts j oj d hj hd hl)
    have hu' : unl m (listed.setIfInBounds i true) = f := by
      have := unl_set him (by rw [hI.head.size]; exact hm) hun
      omega
    unfold wpOp
    simp only [ho]
    rw [wanted_eq hs]
    split
    · rename_i hw
      rw [if_pos hw] at hobl
      exact .inl (Oper.wp_of_opW hs hobl fun v w' hv => ih _ _ _ hu' (hlast v w' hv.1 hv.2))
    · rename_i hw
      rw [if_neg hw] at hobl
      exact ih _ _ _ hu' (hlast undef w (Ext.rfl' w) hobl)
theorem unl_replicate (m k : Nat) (h : m ≤ k) : unl m (Array.replicate k false) = m := by
  unfold unl
  rw [List.filter_eq_self.2]
  · simp
  · intro i hi
    have := List.mem_range.1 hi
    simp [show i < k by omega]
theorem unl_zero {m : Nat} {listed : Array Bool} (h : unl m listed = 0) : ∀ i, i < m → listed.getD i true = true := by
  intro i hi
  unfold unl at h
  have h := List.eq_nil_of_length_eq_zero h
  rw [List.filter_eq_nil_iff] at h
  simpa using h i (List.mem_range.2 hi)
end

section
variable {P : Program} {n : Nat} {Q : Exit → (Nat → Value) → World → Prop} {e : Nat → Value} {w : World}
/-- All facts at the end. -/
def AllFacts (l : List Oper) (Φ : Nat → Fact) (e' : Nat → Value) (w' : World) : Prop := ∀ (i : Nat) (d : Tmp), ((l[i]?).bind (·.dst)) = some d → Φ i (e' d) w'
def factAt : List LFact → Nat → Fact
  | [], _ => isAnyF
  | φ :: _, 0 => φ.f
  | _ :: l, i + 1 => factAt l i
theorem factAt_last : ∀ (φs : List LFact) (i : Nat), Lasts (factAt φs i)
  | [], _ => lasts_isAny
  | φ :: _, 0 => φ.last
  | _ :: l, i + 1 => factAt_last l i
set_option maxHeartbeats 8000000 in
theorem CW_any {id : Nat} {l : List Oper} (φs : List LFact) (hm : P.follows .mixedOrders = true) (hac : acycB l = true) (hd : dstsIn n l = true) (hnd : nodupB (dstsOf l) = true)
    (hops : Obls P l.toArray (dstsOf l) (factAt φs) e w l 0)
    (h : ∀ e' w', Ext w w' → (∀ s, (dstsOf l).contains s = false → e' s = e s) → AllFacts l (factAt φs) e' w' → Q .normal e' w') : CW P n (.region id l.toArray true) Q e w := by
  unfold CW
  intro a hs
  refine wp_region_any hm ?_
  have hsize : l.toArray.size = l.length := by simp
  have inv0 : Inv l.toArray n l.toArray.size (dstsOf (l.toArray.toList.take l.toArray.size)) (factAt φs) e w (Array.replicate l.toArray.size false) a { w with drawn := w.drawn + 1 } :=
    ⟨⟨by simp, fun j oj _ hl => (by rw [getD_replicate_false] at hl; cases hl), fun t ht ht' => by omega⟩, ⟨e, hs, fun _ _ => rfl, fun i o d _ _ hl => (by rw [getD_replicate_false] at hl; cases hl)⟩, Ext.drew' w⟩
  have := wpAny_heads (P := P) (ops := l.toArray) (g := 0) (Q' := QA n Q) (n := n) (m := l.toArray.size) (Φ := factAt φs) (e0 := e) (w0 := w) (by simpa using hac) (Nat.le_refl _) (by simpa using hd) (by simpa using hnd)
    (fun listed _ _ i hi => by obtain ⟨_, o, ho, _⟩ := mem_ready.1 hi; exact (Array.getElem?_eq_some_iff.1 ho).1)
    (fun i => factAt_last φs i) (fun i o _ ho => by have := hops.at_ i o (by simpa using ho); simpa using this)
    (fun listed a w' hI hu => by
      have hall := unl_zero hu
      refine ⟨?_, ?_⟩
      · cases hr : Region.ready .any l.toArray listed with
        | nil => rfl
        | cons i r =>
          have hi : i ∈ Region.ready .any l.toArray listed := by rw [hr]; exact List.mem_cons_self
          obtain ⟨hun, o, ho, _⟩ := mem_ready.1 hi
          rw [hall i (Array.getElem?_eq_some_iff.1 ho).1] at hun
          cases hun
      · obtain ⟨e', hs', hout, hf⟩ := hI.st
        refine ⟨e', hs', h e' w' hI.ext (by simpa using hout) fun i d hid => ?_⟩
        cases ho : l[i]? with
        | none => rw [ho] at hid; cases hid
        | some o =>
          rw [ho] at hid
          have hlt : i < l.length := (List.getElem?_eq_some_iff.1 ho).1
          refine hf i o d (by simpa using ho) hid ?_
          have h1 := hall i (by simpa using hlt)
          have h2 : i < listed.size := by rw [hI.head.size]; simpa using hlt
          simp [h2] at h1 ⊢
          exact h1)
    _ _ a _ (unl_replicate _ _ (Nat.le_refl _)) inv0
  simpa using this
/-- The same ahead of a tail. -/
theorem CW_anyT {id : Nat} {l : List Oper} (k : Nat) (φs : List LFact) (hm : P.follows .mixedOrders = true) (hac : acycB l = true) (hd : dstsIn n l = true) (hnd : nodupB (dstsOf l) = true)
    (hk : (decide (k < l.length) && Region.sinkB .any l.toArray k && Region.chainB .any l.toArray k && Region.seqB .any l.toArray (l.length - k) k (Array.replicate k true ++ Array.replicate (l.length - k) false)) = true)
    (hops : Obls P l.toArray (dstsOf (l.take k)) (factAt φs) e w (l.take k) 0)
    (h : ∀ e' w', Ext w w' → (∀ s, (dstsOf (l.take k)).contains s = false → e' s = e s) → AllFacts (l.take k) (factAt φs) e' w' → OW P l.toArray Q (l.drop k) e' w') : CW P n (.region id l.toArray true) Q e w := by
  unfold CW
  intro a hs
  refine wp_region_any hm ?_
  simp only [Bool.and_eq_true, decide_eq_true_eq] at hk
  obtain ⟨⟨⟨hkl, hsink⟩, hchain⟩, hseq⟩ := hk
  have hd2 : dstsIn n (l.drop k) = true := by
    unfold dstsIn at hd ⊢
    rw [List.all_eq_true] at hd ⊢
    exact fun o ho => hd o (List.mem_of_mem_drop ho)
  have inv0 : Inv l.toArray n k (dstsOf (l.toArray.toList.take k)) (factAt φs) e w (Array.replicate l.toArray.size false) a { w with drawn := w.drawn + 1 } :=
    ⟨⟨by simp, fun j oj _ hl => (by rw [getD_replicate_false] at hl; cases hl), fun t _ ht => getD_in (by simpa using ht) (getD_replicate_false _ _)⟩, ⟨e, hs, fun _ _ => rfl, fun i o d _ _ hl => (by rw [getD_replicate_false] at hl; cases hl)⟩, Ext.drew' w⟩
  have := wpAny_heads (P := P) (ops := l.toArray) (g := l.length - k) (Q' := QA n Q) (n := n) (m := k) (Φ := factAt φs) (e0 := e) (w0 := w) (by simpa using hac) (by simp; omega) (by simpa using hd) (by simpa using hnd)
    (fun listed hI hu i hi => by
      have hex : ∃ j, j < k ∧ listed.getD j true = false := by
        unfold unl at hu
        obtain ⟨j, hj⟩ := List.exists_mem_of_length_pos hu
        rw [List.mem_filter, List.mem_range] at hj
        exact ⟨j, hj.1, by simpa using hj.2⟩
      obtain ⟨j, hj, hjun⟩ := hex
      rcases Nat.lt_or_ge i k with h1 | h1
      · exact h1
      · exact absurd hi (tail_waits hsink hchain (by simpa using hkl) hI _ j rfl hj hjun i h1))
    (fun i => factAt_last φs i) (fun i o hik ho => by have := hops.at_ i o (by rw [List.getElem?_take, if_pos hik]; simpa using ho); simpa using this)
    (fun listed a w' hI hu => by
      have hall := unl_zero hu
      have hsz := hI.head.size
      have hle : listed = Array.replicate k true ++ Array.replicate (l.length - k) false := by
        apply Array.ext
        · simp at hsz ⊢; omega
        · intro i h1 h2
          by_cases hik : i < k
          · have := hall i hik
            simp [h1] at this
            rw [Array.getElem_append_left (by simpa using hik)]
            simp [this]
          · have := hI.head.tail i (by omega) (by rw [hsz] at h1; exact h1)
            simp [h1] at this
            rw [Array.getElem_append_right (by simpa using hik)]
            simp [this]
      obtain ⟨e', hs', hout, hf⟩ := hI.st
      have hl : (l.drop k).length = l.length - k := by simp
      have hseq' : Region.seqB .any l.toArray (l.drop k).length k listed = true := by rw [hl, hle]; exact hseq
      have hdone := wpAny_of_seq (P := P) (md := .any) (ops := l.toArray) (Q' := QA n Q) (l.drop k) k listed a w' (fun j => by simp [List.getElem?_drop]) hseq'
        (wpList_of_OW _ hd2 hs' (h e' w' hI.ext (by simpa using hout) fun i d hid => by
          cases ho : (l.take k)[i]? with
          | none => rw [ho] at hid; cases hid
          | some o =>
            rw [ho] at hid
            have hlt : i < (l.take k).length := (List.getElem?_eq_some_iff.1 ho).1
            have hik : i < k := by simp at hlt; omega
            rw [List.getElem?_take, if_pos hik] at ho
            refine hf i o d (by simpa using ho) hid ?_
            have h1 := hall i hik
            have h2 : i < listed.size := by rw [hsz]; simp; omega
            simp [h2] at h1 ⊢
            exact h1))
      rwa [hl] at hdone)
    _ _ a _ (unl_replicate _ _ (by simp; omega)) inv0
  rw [show k + (l.length - k) = l.toArray.size by simp; omega] at this
  exact this
end
section
variable {P : Program} {ops : Array Oper} {ds : List Nat} {Φ : Nat → Fact} {e0 : Nat → Value} {w0 : World} {i : Nat} {d : Tmp} {op : Op} {ty : TypeId} {pos : String} {aft : Array Edge}
def keepsF (d : Tmp) (w : World) (φ : Fact) : Exit → (Nat → Value) → World → Prop := fun x e' w' => x = .normal ∧ Ext w w' ∧ φ (e' d) w'
/-- One operation's own duty, by a walk of that operation alone. -/
theorem Obl_of (h : ∀ e w, Known ops ds Φ e0 w0 ⟨some d, op, ty, pos, aft, none⟩ e w → OW P ops (keepsF d w (Φ i)) [⟨some d, op, ty, pos, aft, none⟩] e w) : Obl P ops ds Φ e0 w0 i ⟨some d, op, ty, pos, aft, none⟩ := by
  intro e w hk
  have hh := h e w hk
  rw [if_pos (by rfl)]
  unfold OW at hh
  rw [if_pos (by rfl)] at hh
  unfold opW at hh ⊢
  generalize (execOp (ev e) _).run P w = r at *
  cases r with
  | ok x w' =>
    cases x <;> simp only [opUpon] at hh <;> simp only [opUpon]
    case value u => unfold OW at hh; obtain ⟨_, h1, h2⟩ := hh; rw [show put e (some d) u = upd e d u from rfl, upd_same] at h2; exact ⟨h1, h2⟩
    case skip => unfold OW at hh; obtain ⟨_, h1, h2⟩ := hh; rw [show put e (some d) undef = upd e d undef from rfl, upd_same] at h2; exact ⟨h1, h2⟩
    case enter f args =>
      obtain ⟨rfl, hc⟩ := hh
      refine ⟨rfl, hc.mono fun en w'' hx => ?_⟩
      obtain ⟨u, he, hx⟩ := hx
      unfold OW at hx
      obtain ⟨_, h1, h2⟩ := hx
      rw [show put e (some d) u = upd e d u from rfl, upd_same] at h2
      exact ⟨u, he, h1, h2⟩
  | halt x w' => simp only [opUpon] at hh
/-- One that is guarded, and carried out. -/
theorem Obl_take {g : Nat × Bool} (hw : ∀ e w, Known ops ds Φ e0 w0 ⟨some d, op, ty, pos, aft, some g⟩ e w → wantedE ops e ⟨some d, op, ty, pos, aft, some g⟩ = true)
    (h : ∀ e w, Known ops ds Φ e0 w0 ⟨some d, op, ty, pos, aft, none⟩ e w → OW P ops (keepsF d w (Φ i)) [⟨some d, op, ty, pos, aft, none⟩] e w) : Obl P ops ds Φ e0 w0 i ⟨some d, op, ty, pos, aft, some g⟩ := by
  intro e w hk
  have := Obl_of h e w ⟨hk.ext, hk.out, hk.pre⟩
  rw [if_pos (by rfl)] at this
  rw [if_pos (hw e w hk)]
  unfold opW at this ⊢
  exact this
theorem Obl_pass {g : Nat × Bool} (hw : ∀ e w, Known ops ds Φ e0 w0 ⟨some d, op, ty, pos, aft, some g⟩ e w → wantedE ops e ⟨some d, op, ty, pos, aft, some g⟩ = false) (h : ∀ w, Φ i undef w) : Obl P ops ds Φ e0 w0 i ⟨some d, op, ty, pos, aft, some g⟩ := by
  intro e w hk
  rw [if_neg (by rw [hw e w hk]; simp)]
  exact h w
end
theorem keepsF_mk (e : Nat → Value) (d : Tmp) (v : Value) (w : World) : keepsF d w (isV v) .normal (upd e d v) w := ⟨rfl, Ext.rfl' w, upd_same _ _ _⟩
theorem keepsF_bs (e : Nat → Value) (d : Tmp) (A : Option Addr) (c : Nat) (l : List UInt8) (w w' : World) (hw : Ext w w') (hc : l.length ≤ c) (hb : Bs w' A l) : keepsF d w (isBs l) .normal (upd e d (.slice A l.length c)) w' := ⟨rfl, hw, A, c, upd_same _ _ _, hc, hb⟩
theorem keepsF_ext (e : Nat → Value) (d : Tmp) (v : Value) (w w' : World) (hw : Ext w w') : keepsF d w (isV v) .normal (upd e d v) w' := ⟨rfl, hw, upd_same _ _ _⟩
attribute [irreducible] Obl keepsF
end Go.Proofs.Ythhphmbhlddihaa
