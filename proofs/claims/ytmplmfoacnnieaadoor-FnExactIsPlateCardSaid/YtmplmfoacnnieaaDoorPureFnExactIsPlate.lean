/- For all schemes and texts the program's IsPlate and the reference's answer alike: the plain law, without conditions. -/
import Derived.Test.YtmplmfoacnnieaaDoorPFnExactIsPlatex6
set_option linter.unusedVariables false
set_option linter.unusedSimpArgs false
namespace Go.Proofs.YtmplmfoacnnieaaDoor.Pure
open Go.RowKit Go.Proofs.YtmplmfoacnnieaaDoor.PFnExactIsPlate Go.Proofs.YtmplmfoacnnieaaDoorW.PrintWords Go.Proofs.YtmplmfoacnnieaaDoorW.PrintLast Go.Proofs.YtmplmfoacnnieaaDoorW.PrintMore

theorem wrap_id {x : Int} (h0 : -9223372036854775808 ≤ x) (h1 : x < 9223372036854775808) : wrap64 x = x := by
  unfold wrap64
  omega
theorem lit_wf {x : Int} (h : (Lit.int .i64 x).wf = true) : -9223372036854775808 ≤ x ∧ x < 9223372036854775808 := by
  have h2 := h
  simp [Lit.wf, IntKind.min, IntKind.max, IntKind.bits, IntKind.signed] at h2
  omega
theorem wrap_add (x y : Int) : wrap64 (wrap64 x + y) = wrap64 (x + y) := by
  have e : ∀ (m c : Int), ((x + c) % m - c + y + c) % m = (x + y + c) % m := fun m c => by
    have h1 : (x + c) % m - c + y + c = (x + c) % m + y := by generalize (x + c) % m = q; omega
    rw [h1, Int.emod_add_emod, show x + c + y = x + y + c by omega]
  unfold wrap64
  rw [e]
theorem wrap_sub (x y : Int) : wrap64 (wrap64 x - y) = wrap64 (x - y) := by
  rw [Int.sub_eq_add_neg, wrap_add, Int.sub_eq_add_neg]

theorem loop_len (s : ByteArray) (i : Nat) (r : List UInt8) : r.length ≤ (ByteArray.toList.loop s i r).length := by
  fun_induction ByteArray.toList.loop s i r with
  | case1 i r h ih => simp only [List.length_cons] at ih; omega
  | case2 i r h => simp
theorem toList_ne (s : ByteArray) (h : 0 < s.size) : ¬ (s.toList = ([] : List UInt8)) := by
  intro e
  unfold ByteArray.toList ByteArray.toList.loop at e
  rw [if_pos h] at e
  have := loop_len s (0 + 1) [s.get! 0]
  rw [e] at this
  simp at this
theorem toList_nil {s : ByteArray} (h : s.size = 0) : s.toList = ([] : List UInt8) := by
  unfold ByteArray.toList ByteArray.toList.loop
  rw [if_neg (by omega)]
  rfl
theorem toList_iff (s : ByteArray) : s.toList = ([] : List UInt8) ↔ s.size = 0 :=
  ⟨fun h => Decidable.byContradiction fun q => toList_ne s (by omega) h, fun h => toList_nil h⟩

theorem allS_bt (s : ByteArray) : ∀ (d i : Nat), allS s d i = true → ∀ j : Nat, i ≤ j → j < i + d → sgnB (bt s j) = true
  | 0, i, _, j, h1, h2 => by omega
  | d + 1, i, h, j, h1, h2 => by
    simp only [allS, Bool.and_eq_true] at h
    by_cases e : j = i
    · subst e; exact h.1
    · exact allS_bt s d (i + 1) h.2 j (by omega) (by omega)
theorem spec_sign (c : Int) : spec_plSign.f c = some (sgnB c) := by
  unfold spec_plSign.f sgnB
  by_cases h1 : c ≥ 65
  · have a1 : 65 ≤ c := h1
    rw [if_pos h1]
    by_cases h2 : c ≤ 90
    · rw [if_pos h2]; simp [a1, h2]
    · have a2 : ¬ c ≤ 57 := by omega
      rw [if_neg h2, if_pos (by omega)]; simp [h2, a2]
  · have a1 : ¬ 65 ≤ c := h1
    rw [if_neg h1]
    by_cases h3 : c ≥ 48
    · have a3 : 48 ≤ c := h3
      rw [if_pos h3]; simp [a1, a3]
    · have a3 : ¬ 48 ≤ c := h3
      rw [if_neg h3]; simp [a1, a3]
theorem spec_signs_l0 (s : ByteArray) (hn : s.size ≤ 1048576) : ∀ (d i k : Nat), i + d = s.size → d < k → spec_plSigns.l0 k s i = some (allS s d i)
  | 0, i, k, h, hk => by
    obtain ⟨k, rfl⟩ : ∃ m, k = m + 1 := ⟨k - 1, by omega⟩
    simp only [spec_plSigns.l0, allS]
    rw [if_neg (by omega)]
  | d + 1, i, k, h, hk => by
    obtain ⟨k, rfl⟩ : ∃ m, k = m + 1 := ⟨k - 1, by omega⟩
    simp only [spec_plSigns.l0, allS]
    rw [if_pos (by omega), if_pos (by omega), spec_sign]
    simp only [Option.bind_some]
    by_cases c : sgnB (bt s i) = true
    · rw [if_pos c, c, Bool.true_and, wrap_id (by omega) (by omega)]
      exact spec_signs_l0 s hn d (i + 1) k (by omega) (by omega)
    · rw [if_neg c]
      simp only [Bool.not_eq_true] at c
      rw [c]; rfl
theorem spec_signs (s : ByteArray) (lo hi : Int) (hn : s.size ≤ 1048576) (k : Nat) (hk : s.size < k) : spec_plSigns.f k s lo hi = some (signsB s lo hi) := by
  unfold spec_plSigns.f spec_l1In.f signsB
  by_cases h1 : (s.size : Int) ≥ lo
  · rw [if_pos h1]; simp only [Option.bind_some]
    by_cases h2 : (s.size : Int) ≤ hi
    · rw [if_pos (by simpa using h2)]
      have := spec_signs_l0 s hn s.size 0 k (by omega) hk
      rw [show ((0 : Nat) : Int) = 0 from rfl] at this
      rw [this]
      simp [h1, h2]
    · rw [if_neg (by simpa using h2)]
      simp [h2]
  · rw [if_neg h1]; simp only [Option.bind_some]
    rw [if_neg (by simp)]
    simp [h1]

theorem rdOf_get (l : List ByteArray) (i : Nat) (h : i < l.length) : rdOf ByteArray.empty l (i : Int) = l[i] := by
  unfold rdOf
  simp [h]
theorem in8 (a lo hi : Int) : spec_l1In.f a lo hi = some (decide (lo ≤ a) && decide (a ≤ hi)) := by
  unfold spec_l1In.f
  by_cases h1 : a ≥ lo
  · rw [if_pos h1]; simp; omega
  · rw [if_neg h1]; simp; omega
theorem within8 (a lo hi : Int) : impl_within.f a lo hi = some (decide (lo ≤ a) && decide (a ≤ hi)) := by
  unfold impl_within.f
  by_cases h1 : lo ≤ a
  · rw [if_pos h1]; simp [h1]
  · rw [if_neg h1]; simp; omega
theorem bt_list (p : ByteArray) (i : Nat) (h : i < p.data.toList.length) : bt p (i : Int) = ((p.data.toList[i]).toNat : Int) := by
  unfold bt
  have hd : p.data.toList.length = p.data.size := Array.length_toList
  have h1 : (i : Int).toNat < p.size := by
    show (i : Int).toNat < p.data.size
    omega
  rw [dif_pos h1]
  show ((p.data[i]'(by simpa using h)).toNat : Int) = _
  simp
def allLD (p : ByteArray) : Nat → Nat → Bool
  | 0, _ => true
  | d + 1, i => (decide (bt p i = 76) || decide (bt p i = 68)) && allLD p d (i + 1)
theorem allLD_list (p : ByteArray) : ∀ d i, i + d = p.data.toList.length → allLD p d i = (p.data.toList.drop i).all fun b => [76, 68].contains b
  | 0, i, h => by rw [List.drop_of_length_le (by omega)]; rfl
  | d + 1, i, h => by
    have hi : i < p.data.toList.length := by omega
    rw [allLD, allLD_list p d (i + 1) (by omega), List.drop_eq_getElem_cons hi, List.all_cons, bt_list p i hi]
    congr 1
    generalize p.data.toList[i] = c
    have e1 : ((c.toNat : Int) = 76) ↔ c = 76 := by
      constructor
      · intro q; apply UInt8.toNat_inj.mp; show c.toNat = 76; omega
      · rintro rfl; rfl
    have e2 : ((c.toNat : Int) = 68) ↔ c = 68 := by
      constructor
      · intro q; apply UInt8.toNat_inj.mp; show c.toNat = 68; omega
      · rintro rfl; rfl
    simp [e1, e2, Bool.decide_or]
theorem dw_nil (q : UInt8 → Bool) : ∀ l : List UInt8, l.dropWhile q = [] ↔ ∀ b ∈ l, q b = true
  | [] => by simp
  | a :: l => by
    rw [List.dropWhile_cons]
    by_cases c : q a = true
    · rw [if_pos c, dw_nil q l]; simp [c]
    · rw [if_neg c]; simp [c]
theorem trimS_nil (l cs : List UInt8) : Lib.trimS l cs = [] ↔ ∀ b ∈ l, cs.contains b = true := by
  unfold Lib.trimS Lib.trimLeftS Lib.trimRightS
  constructor
  · intro h
    rw [dw_nil] at h
    have h0 : l.reverse.dropWhile (cs.contains ·) = [] := by
      cases hq : l.reverse.dropWhile (cs.contains ·) with
      | nil => rfl
      | cons a r =>
        have h1 := List.head?_dropWhile_not (cs.contains ·) l.reverse
        rw [hq] at h1
        simp only [List.head?_cons] at h1
        have h2 := h a (by rw [hq]; simp)
        simp_all
    rw [dw_nil] at h0
    intro b hb
    exact h0 b (by simpa using hb)
  · intro h
    have h0 : l.reverse.dropWhile (cs.contains ·) = [] := by
      rw [dw_nil]
      intro b hb
      exact h b (by simpa using hb)
    rw [h0]
    rfl
theorem trim8 (p : ByteArray) : trimT p = allLD p p.size 0 := by
  have hsz : p.size = p.data.toList.length := Array.length_toList.symm
  rw [allLD_list p p.size 0 (by omega), List.drop_zero]
  unfold trimT
  have h1 : (trimZ p).toList = ([] : List UInt8) ↔ Lib.trimS p.data.toList [76, 68] = [] := by
    rw [toList_iff]
    unfold trimZ
    show (Lib.trimS p.data.toList [76, 68]).toArray.size = 0 ↔ _
    rw [List.size_toArray, List.length_eq_zero_iff]
  rw [trimS_nil] at h1
  rw [Bool.eq_iff_iff, beq_iff_eq, h1, List.all_eq_true]
theorem good_l2 (l : List ByteArray) (hl : l.length ≤ 1048576) (hs : ∀ x ∈ l, x.size ≤ 1048576) : ∀ d i k : Nat, i + d = l.length → d + 1048580 < k →
    spec_plGood.l2 k l (l.length : Int) (i : Int) = some ((l.drop i).all fun x => signsB x 1 4)
  | 0, i, k, e, hk => by
    obtain ⟨k, rfl⟩ : ∃ m, k = m + 1 := ⟨k - 1, by omega⟩
    rw [spec_plGood.l2, if_neg (show ¬ (i : Int) < (l.length : Int) by omega), List.drop_of_length_le (by omega)]
    rfl
  | d + 1, i, k, e, hk => by
    obtain ⟨k, rfl⟩ : ∃ m, k = m + 1 := ⟨k - 1, by omega⟩
    have hi : i < l.length := by omega
    rw [spec_plGood.l2, if_pos (show (i : Int) < (l.length : Int) by omega), if_pos (show (0 : Int) ≤ (i : Int) by omega), if_pos (show (i : Int) < (l.length : Int) by omega), rdOf_get l i hi, spec_signs l[i] 1 4 (hs _ (List.getElem_mem hi)) k (by have := hs _ (List.getElem_mem hi); omega)]
    simp only [Option.bind_some]
    rw [List.drop_eq_getElem_cons hi, List.all_cons]
    by_cases c : signsB l[i] 1 4 = true
    · rw [if_pos c, c, Bool.true_and, wrap_id (x := (i : Int) + 1) (by omega) (by omega)]
      exact good_l2 l hl hs d (i + 1) k (by omega) (by omega)
    · rw [if_neg c, Bool.eq_false_iff.mpr c]; rfl
theorem good_l1 (p b : ByteArray) (l : List ByteArray) (hb : b.size ≤ 1048576) (hl : l.length ≤ 1048576) (hs : ∀ x ∈ l, x.size ≤ 1048576) : ∀ d i k : Nat, 1 ≤ i → (i + d = b.size ∨ (d = 0 ∧ b.size ≤ i)) → d + l.length + 1048590 < k →
    spec_plGood.l1 k (i : Int) p b l = some (risesL d b (i : Int) && l.all fun x => signsB x 1 4)
  | 0, i, k, h1, e, hk => by
    obtain ⟨k, rfl⟩ : ∃ m, k = m + 1 := ⟨k - 1, by omega⟩
    have := good_l2 l hl hs l.length 0 k (by omega) (by omega)
    rw [List.drop_zero] at this
    rw [spec_plGood.l1, if_neg (show ¬ (i : Int) < (b.size : Int) by omega), risesL, Bool.true_and]
    exact this
  | d + 1, i, k, h1, e, hk => by
    obtain ⟨k, rfl⟩ : ∃ m, k = m + 1 := ⟨k - 1, by omega⟩
    rw [spec_plGood.l1, if_pos (show (i : Int) < (b.size : Int) by omega), wrap_id (x := (i : Int) - 1) (by omega) (by omega), if_pos (show (0 : Int) ≤ (i : Int) - 1 by omega), if_pos (show (i : Int) - 1 < (b.size : Int) by omega), if_pos (show (0 : Int) ≤ (i : Int) by omega), risesL]
    by_cases c : bt b (i : Int) ≤ bt b ((i : Int) - 1)
    · rw [if_pos c, if_pos c]; rfl
    · rw [if_neg c, if_neg c, wrap_id (x := (i : Int) + 1) (by omega) (by omega), show (i : Int) + 1 = ((i + 1 : Nat) : Int) by omega]
      exact good_l1 p b l hb hl hs d (i + 1) k (by omega) (by omega) (by omega)
theorem good_l0 (p b : ByteArray) (l : List ByteArray) (hp : p.size ≤ 1048576) (hb : b.size ≤ 1048576) (hl : l.length ≤ 1048576) (hs : ∀ x ∈ l, x.size ≤ 1048576) : ∀ d i k : Nat, i + d = p.size → d + 5000000 < k →
    spec_plGood.l0 k (i : Int) p b l = some (allLD p d i && (risesL (b.size - 1) b 1 && l.all fun x => signsB x 1 4))
  | 0, i, k, e, hk => by
    obtain ⟨k, rfl⟩ : ∃ m, k = m + 1 := ⟨k - 1, by omega⟩
    rw [spec_plGood.l0, if_neg (show ¬ (i : Int) < (p.size : Int) by omega), allLD, Bool.true_and]
    exact good_l1 p b l hb hl hs (b.size - 1) 1 k (by omega) (by omega) (by omega)
  | d + 1, i, k, e, hk => by
    obtain ⟨k, rfl⟩ : ∃ m, k = m + 1 := ⟨k - 1, by omega⟩
    have ih := good_l0 p b l hp hb hl hs d (i + 1) k (by omega) (by omega)
    rw [spec_plGood.l0, if_pos (show (i : Int) < (p.size : Int) by omega), if_pos (show (0 : Int) ≤ (i : Int) by omega), wrap_id (x := (i : Int) + 1) (by omega) (by omega), show (i : Int) + 1 = ((i + 1 : Nat) : Int) by omega, allLD]
    by_cases c : bt p (i : Int) = 76
    · rw [if_pos c, ih]; simp [c]
    · rw [if_neg c]
      by_cases c2 : bt p (i : Int) = 68
      · rw [if_pos c2, ih]; simp [c2]
      · rw [if_neg c2]; simp [c, c2]
theorem spec_good8 (p b : ByteArray) (l : List ByteArray) (hp : p.size ≤ 1048576) (hb : b.size ≤ 1048576) (hl : l.length ≤ 1048576) (hs : ∀ x ∈ l, x.size ≤ 1048576) (k : Nat) (hk : 7000000 < k) : spec_plGood.f k p b l = some (isSchT p b l) := by
  have hn : (l.any fun x => !signsB x 1 4) = !(l.all fun x => signsB x 1 4) := by
    induction l with
    | nil => rfl
    | cons a l ih => rw [List.any_cons, List.all_cons, ih (by simp at hl; omega) (fun x hx => hs x (List.mem_cons_of_mem _ hx)), Bool.not_and]
  obtain ⟨k, rfl⟩ : ∃ m, k = m + 1 := ⟨k - 1, by omega⟩
  have h0 := good_l0 p b l hp hb hl hs p.size 0 k (by omega) (by omega)
  rw [show ((0 : Nat) : Int) = 0 from rfl] at h0
  unfold spec_plGood.f isSchT
  rw [in8, spec_signs b 0 36 hb _ (by omega), hn, Bool.not_not, trim8]
  simp only [Option.bind_some, spec_plGood.j0]
  rw [h0]
  by_cases c1 : (decide (1 ≤ (p.size : Int)) && decide ((p.size : Int) ≤ 8)) = true
  · rw [if_pos c1, c1]
    by_cases c2 : signsB b 0 36 = true
    · rw [if_pos c2, c2]
      by_cases c3 : l.length ≤ 3
      · rw [if_neg (by simp; omega), decide_eq_true c3]
        simp only [Bool.true_and, Bool.and_assoc, Bool.and_true]
        congr 1
        cases allLD p p.size 0 <;> cases risesL (b.size - 1) b 1 <;> rfl
      · rw [if_pos (by simp; omega), decide_eq_false c3]
        simp
    · rw [if_neg c2, if_pos trivial, Bool.eq_false_iff.mpr c2]
      simp
  · rw [if_neg c1, if_pos trivial, Bool.eq_false_iff.mpr c1]
    simp
/-! how large it is, its copy, and whether two are alike -/
theorem sz_l0 (l : List ByteArray) (hl : l.length ≤ 1048576) (hx : ∀ x ∈ l, x.size ≤ 9223372036854775807) : ∀ (d i : Nat) (a : Int) (k : Nat), i + d = l.length → 0 ≤ a → a ≤ 1048576 → d < k →
    ∃ t, laws_szStringS.l0 k l a (i : Int) = some t ∧ (0 ≤ t → ∀ x ∈ l.drop i, x.size ≤ 1048576)
  | 0, i, a, k, e, h0, h1, hk => by
    obtain ⟨k, rfl⟩ : ∃ m, k = m + 1 := ⟨k - 1, by omega⟩
    rw [laws_szStringS.l0, if_neg (show ¬ (i : Int) < (l.length : Int) by omega)]
    exact ⟨a, rfl, fun _ x hx => by rw [List.drop_of_length_le (by omega)] at hx; simp at hx⟩
  | d + 1, i, a, k, e, h0, h1, hk => by
    obtain ⟨k, rfl⟩ : ∃ m, k = m + 1 := ⟨k - 1, by omega⟩
    have hi : i < l.length := by omega
    have hxi := hx l[i] (List.getElem_mem hi)
    rw [laws_szStringS.l0, if_pos (show (i : Int) < (l.length : Int) by omega), if_pos (show (0 : Int) ≤ (i : Int) by omega), rdOf_get l i hi, wrap_id (x := a - (l[i].size : Int)) (by omega) (by omega), wrap_id (x := (i : Int) + 1) (by omega) (by omega), show (i : Int) + 1 = ((i + 1 : Nat) : Int) by omega]
    by_cases c : a - (l[i].size : Int) < 0
    · rw [if_pos c]; exact ⟨-1, rfl, fun h => absurd h (by omega)⟩
    · rw [if_neg c]
      obtain ⟨t, h2, h3⟩ := sz_l0 l hl hx d (i + 1) (a - (l[i].size : Int)) k (by omega) (by omega) (by omega) (by omega)
      refine ⟨t, h2, fun ht x hx2 => ?_⟩
      rw [List.drop_eq_getElem_cons hi] at hx2
      rcases List.mem_cons.mp hx2 with rfl | hx2
      · omega
      · exact h3 ht x hx2
theorem sz8 (p b : ByteArray) (l : List ByteArray) (hp : p.size ≤ maxLen) (hb : b.size ≤ maxLen) (hl : l.length ≤ maxLen) (hx : ∀ x ∈ l, x.size ≤ maxLen) (k : Nat) (hk : 1048580 < k) :
    ∃ t, laws_szScheme.f k p b l 1048576 = some t ∧ (¬ t < 0 → p.size ≤ 1048576 ∧ b.size ≤ 1048576 ∧ l.length ≤ 1048576 ∧ ∀ x ∈ l, x.size ≤ 1048576) := by
  have hm : maxLen = 9223372036854775807 := rfl
  rw [hm] at hp hb hl
  unfold laws_szScheme.f
  rw [wrap_id (x := 1048576 - (p.size : Int)) (by omega) (by omega)]
  by_cases c1 : (1048576 : Int) - (p.size : Int) < 0
  · rw [if_pos c1]; exact ⟨-1, rfl, fun h => absurd (show (-1 : Int) < 0 by decide) h⟩
  rw [if_neg c1, wrap_id (x := 1048576 - (p.size : Int) - (b.size : Int)) (by omega) (by omega)]
  by_cases c2 : (1048576 : Int) - (p.size : Int) - (b.size : Int) < 0
  · rw [if_pos c2]; exact ⟨-1, rfl, fun h => absurd (show (-1 : Int) < 0 by decide) h⟩
  rw [if_neg c2]
  unfold laws_szStringS.f
  rw [wrap_id (x := 1048576 - (p.size : Int) - (b.size : Int) - (l.length : Int)) (by omega) (by omega)]
  by_cases c3 : (1048576 : Int) - (p.size : Int) - (b.size : Int) - (l.length : Int) < 0
  · rw [if_pos c3]; exact ⟨-1, rfl, fun h => absurd (show (-1 : Int) < 0 by decide) h⟩
  rw [if_neg c3]
  obtain ⟨t, h2, h3⟩ := sz_l0 l (by omega) (fun x h => by rw [← hm]; exact hx x h) l.length 0 (1048576 - (p.size : Int) - (b.size : Int) - (l.length : Int)) k (by omega) (by omega) (by omega) (by omega)
  rw [show ((0 : Nat) : Int) = 0 from rfl] at h2
  rw [h2]
  simp only [Option.bind_some]
  rw [List.drop_zero] at h3
  by_cases c4 : t < 0
  · rw [if_pos c4]; exact ⟨-1, rfl, fun h => absurd (show (-1 : Int) < 0 by decide) h⟩
  · rw [if_neg c4]; exact ⟨t, rfl, fun _ => ⟨by omega, by omega, by omega, h3 (by omega)⟩⟩
theorem to_l0 (l : List ByteArray) (hl : l.length ≤ 1048576) : ∀ (d i k : Nat) (o : List ByteArray), i + d = l.length → o.length = l.length → o.take i = l.take i → d < k →
    laws_toStringS.l0 k l o (i : Int) = some l
  | 0, i, k, o, e, ho, ht, hk => by
    obtain ⟨k, rfl⟩ : ∃ m, k = m + 1 := ⟨k - 1, by omega⟩
    rw [laws_toStringS.l0, if_neg (show ¬ (i : Int) < (l.length : Int) by omega)]
    rw [List.take_of_length_le (by omega), List.take_of_length_le (by omega)] at ht
    rw [ht]
  | d + 1, i, k, o, e, ho, ht, hk => by
    obtain ⟨k, rfl⟩ : ∃ m, k = m + 1 := ⟨k - 1, by omega⟩
    have hi : i < l.length := by omega
    rw [laws_toStringS.l0, if_pos (show (i : Int) < (l.length : Int) by omega), if_pos (show (0 : Int) ≤ (i : Int) by omega), if_pos (show (i : Int) < (o.length : Int) by omega), rdOf_get l i hi, show ((i : Int)).toNat = i by omega, wrap_id (x := (i : Int) + 1) (by omega) (by omega), show (i : Int) + 1 = ((i + 1 : Nat) : Int) by omega]
    refine to_l0 l hl d (i + 1) k _ (by omega) (by simpa using ho) ?_ (by omega)
    rw [List.take_succ_eq_append_getElem (by simpa using (by omega : i < o.length)), List.take_succ_eq_append_getElem hi, List.take_set_of_le (Nat.le_refl i), ht]
    simp
theorem to8 (p b : ByteArray) (l : List ByteArray) (hl : l.length ≤ 1048576) (k : Nat) (hk : 1048580 < k) : laws_toScheme.f k p b l = some (p, b, l) := by
  unfold laws_toScheme.f laws_toStringS.f
  have h := to_l0 l hl l.length 0 k (List.replicate l.length (⟨#[]⟩ : ByteArray)) (by omega) (by simp) (by simp) (by omega)
  rw [show ((0 : Nat) : Int) = 0 from rfl] at h
  rw [if_pos (show (0 : Int) ≤ (l.length : Int) by omega), show ((l.length : Int)).toNat = l.length by omega, if_pos (by omega), h]
  rfl
theorem eqS_l0 (l : List ByteArray) (hl : l.length ≤ 1048576) : ∀ d i k : Nat, i + d = l.length → d < k → laws_eqStringS.l0 k l l (i : Int) = some true
  | 0, i, k, e, hk => by
    obtain ⟨k, rfl⟩ : ∃ m, k = m + 1 := ⟨k - 1, by omega⟩
    rw [laws_eqStringS.l0, if_neg (show ¬ (i : Int) < (l.length : Int) by omega)]
  | d + 1, i, k, e, hk => by
    obtain ⟨k, rfl⟩ : ∃ m, k = m + 1 := ⟨k - 1, by omega⟩
    rw [laws_eqStringS.l0, if_pos (show (i : Int) < (l.length : Int) by omega), if_pos (show (0 : Int) ≤ (i : Int) by omega), if_pos (show (i : Int) < (l.length : Int) by omega), if_pos rfl, wrap_id (x := (i : Int) + 1) (by omega) (by omega), show (i : Int) + 1 = ((i + 1 : Nat) : Int) by omega]
    exact eqS_l0 l hl d (i + 1) k (by omega) (by omega)
theorem eq8 (p b : ByteArray) (l : List ByteArray) (hl : l.length ≤ 1048576) (k : Nat) (hk : 1048580 < k) : laws_eqScheme.f k p b l p b l = some true := by
  unfold laws_eqScheme.f laws_eqStringS.f
  have h := eqS_l0 l hl l.length 0 k (by omega) (by omega)
  rw [show ((0 : Nat) : Int) = 0 from rfl] at h
  rw [if_pos rfl, if_pos rfl, if_pos rfl, h]
  rfl
theorem small8 {p b : ByteArray} {l : List ByteArray} (hp : p.size ≤ 1048576) (hb : b.size ≤ 1048576) (hl : l.length ≤ 1048576) (hs : ∀ x ∈ l, x.size ≤ 1048576) : smallS p b l = true := by
  simp only [smallS, Bool.and_eq_true, decide_eq_true_eq, List.all_eq_true]
  exact ⟨⟨⟨hp, hb⟩, hl⟩, hs⟩
theorem impl_good8 (p b : ByteArray) (l : List ByteArray) (hp : p.size ≤ 1048576) (hb : b.size ≤ 1048576) (hl : l.length ≤ 1048576) (hs : ∀ x ∈ l, x.size ≤ 1048576) : impl_IsScheme.f p b l = some (isSchT p b l) := by
  unfold impl_IsScheme.f
  rw [if_pos (small8 hp hb hl hs)]

theorem occ_iff (s w : ByteArray) (i : Nat) (h : i + w.size ≤ s.size) : (s.extract i (i + w.size)).toList = w.toList ↔ Lib.occAt s.data.toList w.data.toList i = true := by
  rw [Lib.toList_data, Lib.toList_data]
  have e : (s.extract i (i + w.size)).data.toList = (s.data.toList.drop i).take w.data.toList.length := by
    rw [ByteArray.data_extract, Array.toList_extract, List.extract]
    congr 1
    have : w.data.toList.length = w.size := Array.length_toList
    omega
  rw [e]
  unfold Lib.occAt
  rw [List.isPrefixOf_iff_prefix, List.prefix_iff_eq_take]
  exact eq_comm
theorem has_l0 (s w : ByteArray) (hs : s.size ≤ 1048576) (hw : w.size ≤ 1048576) : ∀ d i k : Nat, (i + d = s.size + 1 - w.size ∨ (d = 0 ∧ s.size + 1 - w.size ≤ i)) → d < k → i ≤ 2000000 → (∀ j, j < i → Lib.occAt s.data.toList w.data.toList j = false) →
    spec_plHas.l0 k s w (i : Int) = some (Lib.contains s.data.toList w.data.toList)
  | 0, i, k, e, hk, hi, hn => by
    obtain ⟨k, rfl⟩ : ∃ m, k = m + 1 := ⟨k - 1, by omega⟩
    have h0 : Lib.index s.data.toList w.data.toList = -1 := Lib.index_none fun j hj => by
      by_cases c : j < i
      · exact hn j c
      · cases ho : Lib.occAt s.data.toList w.data.toList j with
        | false => rfl
        | true =>
          exfalso
          unfold Lib.occAt at ho
          rw [List.isPrefixOf_iff_prefix] at ho
          have h1 := ho.length_le
          rw [List.length_drop] at h1
          have h2 : w.data.toList.length = w.size := Array.length_toList
          have h3 : s.data.toList.length = s.size := Array.length_toList
          omega
    rw [spec_plHas.l0, wrap_id (x := (i : Int) + (w.size : Int)) (by omega) (by omega), if_neg (show ¬ (i : Int) + (w.size : Int) ≤ (s.size : Int) by omega)]
    unfold Lib.contains
    rw [h0]
    rfl
  | d + 1, i, k, e, hk, hi, hn => by
    obtain ⟨k, rfl⟩ : ∃ m, k = m + 1 := ⟨k - 1, by omega⟩
    have hr : i + w.size ≤ s.size := by omega
    rw [spec_plHas.l0, wrap_id (x := (i : Int) + (w.size : Int)) (by omega) (by omega), if_pos (show (i : Int) + (w.size : Int) ≤ (s.size : Int) by omega), if_pos (show (0 : Int) ≤ (i : Int) by omega), if_pos (show (i : Int) ≤ (i : Int) + (w.size : Int) by omega), show ((i : Int) + (w.size : Int)).toNat = i + w.size by omega, show ((i : Int)).toNat = i by omega]
    by_cases c : (s.extract i (i + w.size)).toList = w.toList
    · rw [if_pos c]
      have ho := (occ_iff s w i hr).1 c
      have h3 : s.data.toList.length = s.size := Array.length_toList
      have h0 := Lib.index_first (s := s.data.toList) (sub := w.data.toList) (i := i) (by omega) ho hn
      unfold Lib.contains
      rw [h0]
      simp
    · rw [if_neg c, wrap_id (x := (i : Int) + 1) (by omega) (by omega), show (i : Int) + 1 = ((i + 1 : Nat) : Int) by omega]
      refine has_l0 s w hs hw d (i + 1) k (by omega) (by omega) (by omega) (fun j hj => ?_)
      rcases Nat.lt_succ_iff_lt_or_eq.mp hj with h | rfl
      · exact hn j h
      · exact Bool.eq_false_iff.mpr fun q => c ((occ_iff s w j hr).2 q)
theorem has8 (s w : ByteArray) (hs : s.size ≤ 1048576) (hw : w.size ≤ 1048576) (k : Nat) (hk : 1048580 < k) : spec_plHas.f k s w = some (Lib.contains s.data.toList w.data.toList) := by
  unfold spec_plHas.f
  have h := has_l0 s w hs hw (s.size + 1 - w.size) 0 k (by omega) (by omega) (by omega) (fun j hj => absurd hj (Nat.not_lt_zero j))
  rw [show ((0 : Nat) : Int) = 0 from rfl] at h
  exact h
def wIdx (t : ByteArray) : List ByteArray → Int → List Int
  | [], _ => []
  | x :: l, i => if Lib.contains t.data.toList x.data.toList = true then i :: wIdx t l (i + 1) else wIdx t l (i + 1)
theorem wIdx_len (t : ByteArray) : ∀ (l : List ByteArray) (i : Int), (wIdx t l i).length ≤ l.length
  | [], _ => Nat.le_refl _
  | x :: l, i => by
    have := wIdx_len t l (i + 1)
    rw [wIdx]
    split
    · simp; omega
    · simp; omega
theorem impl_words_l0 (t : ByteArray) (ht : t.size ≤ 1048576) (l : List ByteArray) (hl : l.length ≤ 1048576) : ∀ (d i k : Nat) (o : List Int), i + d = l.length → o.length ≤ i → d < k →
    impl_Scheme_wordsIn.l0 k t o l (l.length : Int) (i : Int) = some (o ++ wIdx t (l.drop i) (i : Int))
  | 0, i, k, o, e, ho, hk => by
    obtain ⟨k, rfl⟩ : ∃ m, k = m + 1 := ⟨k - 1, by omega⟩
    rw [impl_Scheme_wordsIn.l0, if_neg (show ¬ (i : Int) < (l.length : Int) by omega), List.drop_of_length_le (by omega), wIdx, List.append_nil]
  | d + 1, i, k, o, e, ho, hk => by
    obtain ⟨k, rfl⟩ : ∃ m, k = m + 1 := ⟨k - 1, by omega⟩
    have hi : i < l.length := by omega
    have hc : strings_Contains.f t l[i] = some (Lib.contains t.data.toList l[i].data.toList) := by unfold strings_Contains.f; rw [if_pos (by omega)]
    rw [impl_Scheme_wordsIn.l0, if_pos (show (i : Int) < (l.length : Int) by omega), if_pos (show (0 : Int) ≤ (i : Int) by omega), if_pos (show (i : Int) < (l.length : Int) by omega), rdOf_get l i hi, hc]
    simp only [Option.bind_some]
    rw [List.drop_eq_getElem_cons hi, wIdx, wrap_id (x := (i : Int) + 1) (by omega) (by omega), show (i : Int) + 1 = ((i + 1 : Nat) : Int) by omega]
    by_cases c : Lib.contains t.data.toList l[i].data.toList = true
    · rw [if_pos c, if_pos c, if_pos (by omega), impl_words_l0 t ht l hl d (i + 1) k (o ++ [(i : Int)]) (by omega) (by simp; omega) (by omega), List.append_assoc]
      rfl
    · rw [if_neg c, if_neg c]
      exact impl_words_l0 t ht l hl d (i + 1) k o (by omega) (by omega) (by omega)
theorem impl_words (p b t : ByteArray) (ht : t.size ≤ 1048576) (l : List ByteArray) (hl : l.length ≤ 1048576) (k : Nat) (hk : 1048580 < k) : impl_Scheme_wordsIn.f k p b l t = some (wIdx t l 0) := by
  unfold impl_Scheme_wordsIn.f
  have h := impl_words_l0 t ht l hl l.length 0 k [] (by omega) (by simp) (by omega)
  rw [show ((0 : Nat) : Int) = 0 from rfl] at h
  rw [h, List.drop_zero, List.nil_append]

def barB (b : ByteArray) (c : Int) : Bool := decide (Lib.indexByte b.data.toList c.toNat.toUInt8 < 0)
def alL (b : ByteArray) : Nat → Int → List Int
  | 0, _ => []
  | d + 1, c => if barB b c = true then c :: alL b d (c + 1) else alL b d (c + 1)
theorem alL_len (b : ByteArray) : ∀ (d : Nat) (c : Int), (alL b d c).length ≤ d
  | 0, _ => Nat.le_refl _
  | d + 1, c => by
    have := alL_len b d (c + 1)
    rw [alL]
    split
    · simp; omega
    · omega
theorem alL_mem (b : ByteArray) (x : Int) : ∀ (d : Nat) (c : Int), x ∈ alL b d c ↔ (c ≤ x ∧ x < c + d) ∧ barB b x = true
  | 0, c => by simp [alL]; omega
  | d + 1, c => by
    rw [alL]
    by_cases h : barB b c = true
    · rw [if_pos h, List.mem_cons, alL_mem b x d (c + 1)]
      constructor
      · rintro (rfl | ⟨h1, h2⟩)
        · exact ⟨by omega, h⟩
        · exact ⟨by omega, h2⟩
      · rintro ⟨h1, h2⟩
        by_cases e : x = c
        · exact .inl e
        · exact .inr ⟨by omega, h2⟩
    · rw [if_neg h, alL_mem b x d (c + 1)]
      constructor
      · rintro ⟨h1, h2⟩
        exact ⟨by omega, h2⟩
      · rintro ⟨h1, h2⟩
        by_cases e : x = c
        · subst e; exact absurd h2 h
        · exact ⟨by omega, h2⟩
theorem allowed_l0 (p b : ByteArray) (l : List ByteArray) (hi : Int) (hh : hi ≤ 100) : ∀ (d : Nat) (c : Int) (k : Nat) (o : List Int), 0 ≤ c → c + d = hi + 1 → o.length + d ≤ 300 → d < k →
    impl_Scheme_allowed.l0 k o hi c p b l = some (o ++ alL b d c)
  | 0, c, k, o, h0, e, ho, hk => by
    obtain ⟨k, rfl⟩ : ∃ m, k = m + 1 := ⟨k - 1, by omega⟩
    rw [impl_Scheme_allowed.l0, if_neg (show ¬ c ≤ hi by omega), alL, List.append_nil]
  | d + 1, c, k, o, h0, e, ho, hk => by
    obtain ⟨k, rfl⟩ : ∃ m, k = m + 1 := ⟨k - 1, by omega⟩
    rw [impl_Scheme_allowed.l0, if_pos (show c ≤ hi by omega), alL]
    unfold strings_IndexByte.f barB
    simp only [Option.bind_some]
    rw [show (c + 1) % 256 = c + 1 by omega]
    by_cases q : Lib.indexByte b.data.toList c.toNat.toUInt8 < 0
    · rw [if_pos q, if_pos (by omega), if_pos (decide_eq_true q), allowed_l0 p b l hi hh d (c + 1) k (o ++ [c]) (by omega) (by omega) (by simp; omega) (by omega), List.append_assoc]
      rfl
    · rw [if_neg q, if_neg (by simpa using q)]
      exact allowed_l0 p b l hi hh d (c + 1) k o (by omega) (by omega) (by omega) (by omega)
theorem index_l0 (l : List Int) (hl : l.length ≤ 1048576) (x : Int) : ∀ (d i k : Nat), i + d = l.length → d < k →
    ∃ t, slices_Index_byte_byte.l0 k l x (l.length : Int) (i : Int) = some t ∧ (t ≥ 0 ↔ x ∈ l.drop i)
  | 0, i, k, e, hk => by
    obtain ⟨k, rfl⟩ : ∃ m, k = m + 1 := ⟨k - 1, by omega⟩
    rw [slices_Index_byte_byte.l0, if_neg (show ¬ (i : Int) < (l.length : Int) by omega), List.drop_of_length_le (by omega)]
    exact ⟨-1, rfl, by simp⟩
  | d + 1, i, k, e, hk => by
    obtain ⟨k, rfl⟩ : ∃ m, k = m + 1 := ⟨k - 1, by omega⟩
    have hi : i < l.length := by omega
    have hr : rd l (i : Int) = l[i] := by simp [rd, hi]
    rw [slices_Index_byte_byte.l0, if_pos (show (i : Int) < (l.length : Int) by omega), if_pos (show (0 : Int) ≤ (i : Int) by omega), if_pos (show (i : Int) < (l.length : Int) by omega), hr, List.drop_eq_getElem_cons hi]
    by_cases c : x = l[i]
    · rw [if_pos c]
      exact ⟨(i : Int), rfl, ⟨fun _ => by rw [c]; exact List.mem_cons_self, fun _ => by omega⟩⟩
    · rw [if_neg c, wrap_id (x := (i : Int) + 1) (by omega) (by omega), show (i : Int) + 1 = ((i + 1 : Nat) : Int) by omega]
      obtain ⟨t, h1, h2⟩ := index_l0 l hl x d (i + 1) k (by omega) (by omega)
      exact ⟨t, h1, by rw [h2, List.mem_cons]; simp [c]⟩
theorem contains8 (l : List Int) (hl : l.length ≤ 1048576) (x : Int) (k : Nat) (hk : l.length < k) : slices_Contains_byte_byte.f k l x = some (decide (x ∈ l)) := by
  unfold slices_Contains_byte_byte.f slices_Index_byte_byte.f
  obtain ⟨t, h1, h2⟩ := index_l0 l hl x l.length 0 k (by omega) hk
  rw [show ((0 : Nat) : Int) = 0 from rfl] at h1
  rw [h1]
  simp only [Option.bind_some, List.drop_zero] at h2 ⊢
  congr 1
  exact decide_eq_decide.mpr h2
def ltrB (c : Int) : Bool := decide (65 ≤ c) && decide (c ≤ 90)
def okB (p b : ByteArray) (c : Int) (i : Int) : Bool := (if bt p i = 76 then ltrB c else (decide (48 ≤ c) && decide (c ≤ 57))) && barB b c
def fitsL (p b t : ByteArray) : Nat → Nat → Bool
  | 0, _ => true
  | d + 1, i => okB p b (bt t (i : Int)) (i : Int) && fitsL p b t d (i + 1)
theorem allowed8 (p b : ByteArray) (l : List ByteArray) (i : Nat) (hi : i < p.size) (x : Int) (k : Nat) (hk : 200 < k) : ∃ L, impl_Scheme_allowed.f k p b l (i : Int) = some L ∧ L.length ≤ 100 ∧ decide (x ∈ L) = okB p b x (i : Int) := by
  obtain ⟨k, rfl⟩ : ∃ m, k = m + 1 := ⟨k - 1, by omega⟩
  unfold impl_Scheme_allowed.f okB
  simp only [Option.bind_some]
  rw [if_pos (show (0 : Int) ≤ (i : Int) by omega), if_pos (show (i : Int) < (p.size : Int) by omega)]
  by_cases c : bt p (i : Int) = 76
  · rw [if_pos c, if_pos c, impl_Scheme_allowed.j0, allowed_l0 p b l 90 (by omega) 26 65 k [] (by omega) (by omega) (by simp) (by omega)]
    refine ⟨_, rfl, ?_, ?_⟩
    · rw [List.nil_append]; exact Nat.le_trans (alL_len b 26 65) (by decide)
    · rw [List.nil_append, Bool.eq_iff_iff, decide_eq_true_iff, alL_mem]
      simp only [ltrB, Bool.and_eq_true, decide_eq_true_eq]
      constructor
      · rintro ⟨h1, h2⟩; exact ⟨by omega, h2⟩
      · rintro ⟨h1, h2⟩; exact ⟨by omega, h2⟩
  · rw [if_neg c, if_neg c, impl_Scheme_allowed.j0, allowed_l0 p b l 57 (by omega) 10 48 k [] (by omega) (by omega) (by simp) (by omega)]
    refine ⟨_, rfl, ?_, ?_⟩
    · rw [List.nil_append]; exact Nat.le_trans (alL_len b 10 48) (by decide)
    · rw [List.nil_append, Bool.eq_iff_iff, decide_eq_true_iff, alL_mem]
      simp only [Bool.and_eq_true, decide_eq_true_eq]
      constructor
      · rintro ⟨h1, h2⟩; exact ⟨by omega, h2⟩
      · rintro ⟨h1, h2⟩; exact ⟨by omega, h2⟩
def cleanB (t : ByteArray) (l : List ByteArray) : Bool := l.all fun x => !Lib.contains t.data.toList x.data.toList
theorem wIdx_clean (t : ByteArray) : ∀ (l : List ByteArray) (i : Int), (((wIdx t l i).length : Int) == 0) = cleanB t l
  | [], _ => rfl
  | x :: l, i => by
    have ih := wIdx_clean t l (i + 1)
    unfold cleanB at ih ⊢
    rw [wIdx, List.all_cons]
    by_cases c : Lib.contains t.data.toList x.data.toList = true
    · rw [if_pos c, c, List.length_cons]
      simp
      omega
    · rw [if_neg c, ih, Bool.eq_false_iff.mpr c]
      rfl
theorem impl_isPlate_l0 (p b t : ByteArray) (hp : p.size ≤ 1048576) (ht : t.size ≤ 1048576) (hpt : t.size ≤ p.size) (l : List ByteArray) (hl : l.length ≤ 1048576) : ∀ (d i k : Nat), i + d = t.size → d + 1048600 < k →
    impl_Scheme_isPlate.l0 k t (t.size : Int) (i : Int) p b l = some (fitsL p b t d i && cleanB t l)
  | 0, i, k, e, hk => by
    obtain ⟨k, rfl⟩ : ∃ m, k = m + 1 := ⟨k - 1, by omega⟩
    rw [impl_Scheme_isPlate.l0, if_neg (show ¬ (i : Int) < (t.size : Int) by omega), impl_words p b t ht l hl k (by omega)]
    simp only [Option.bind_some]
    rw [wIdx_clean, fitsL, Bool.true_and]
  | d + 1, i, k, e, hk => by
    obtain ⟨k, rfl⟩ : ∃ m, k = m + 1 := ⟨k - 1, by omega⟩
    obtain ⟨L, h1, h2, h3⟩ := allowed8 p b l i (by omega) (bt t (i : Int)) k (by omega)
    rw [impl_Scheme_isPlate.l0, if_pos (show (i : Int) < (t.size : Int) by omega), h1]
    simp only [Option.bind_some]
    rw [if_pos (show (0 : Int) ≤ (i : Int) by omega), if_pos (show (i : Int) < (t.size : Int) by omega), contains8 L (by omega) _ k (by omega), h3]
    simp only [Option.bind_some]
    rw [fitsL, wrap_id (x := (i : Int) + 1) (by omega) (by omega), show (i : Int) + 1 = ((i + 1 : Nat) : Int) by omega]
    by_cases c : okB p b (bt t (i : Int)) (i : Int) = true
    · rw [if_pos c, c, Bool.true_and]
      exact impl_isPlate_l0 p b t hp ht hpt l hl d (i + 1) k (by omega) (by omega)
    · rw [if_neg c, Bool.eq_false_iff.mpr c]; rfl
theorem one_list (t : ByteArray) (i : Nat) (hi : i < t.size) : (t.extract i (i + 1)).data.toList = [(bt t (i : Int)).toNat.toUInt8] := by
  have hl : t.data.toList.length = t.size := Array.length_toList
  have hi' : i < t.data.toList.length := by omega
  rw [ByteArray.data_extract, Array.toList_extract, List.extract, show i + 1 - i = 1 by omega, List.drop_eq_getElem_cons hi', bt_list t i hi']
  simp
theorem fit_one (p b t : ByteArray) (i : Nat) (hi : i < t.size) : okB p b (bt t (i : Int)) (i : Int) = (sgnB (bt t (i : Int)) && ((ltrB (bt t (i : Int)) == (bt p (i : Int) == 76)) && !Lib.contains b.data.toList (t.extract i (i + 1)).data.toList)) := by
  have hc : (!Lib.contains b.data.toList (t.extract i (i + 1)).data.toList) = barB b (bt t (i : Int)) := by
    rw [one_list t i hi]
    unfold Lib.contains barB
    rw [Lib.index_one]
    by_cases q : Lib.indexByte b.data.toList (bt t (i : Int)).toNat.toUInt8 < 0
    · rw [decide_eq_true q, decide_eq_false (by omega)]; rfl
    · rw [decide_eq_false q, decide_eq_true (by omega)]; rfl
  rw [hc]
  unfold okB sgnB ltrB
  generalize bt t (i : Int) = c
  by_cases h : bt p (i : Int) = 76
  · rw [if_pos h, h]
    by_cases h1 : 65 ≤ c <;> by_cases h2 : c ≤ 90 <;> simp [h1, h2]
  · rw [if_neg h, show (bt p (i : Int) == 76) = false from beq_eq_false_iff_ne.mpr h]
    by_cases h1 : 65 ≤ c
    · have h4 : ¬ c ≤ 57 := by omega
      by_cases h2 : c ≤ 90 <;> simp [h1, h2, h4]
    · simp [h1]
theorem spec_fits_l0 (p b t : ByteArray) (hb : b.size ≤ 1048576) (ht : t.size ≤ 1048576) (hpt : t.size ≤ p.size) (l : List ByteArray) : ∀ (d i k : Nat), i + d = t.size → 2 * d + 1048600 < k →
    spec_plFits.l0 k t (i : Int) p b l = some (fitsL p b t d i)
  | 0, i, k, e, hk => by
    obtain ⟨k, rfl⟩ : ∃ m, k = m + 1 := ⟨k - 1, by omega⟩
    rw [spec_plFits.l0, if_neg (show ¬ (i : Int) < (t.size : Int) by omega)]
    rfl
  | d + 1, i, k, e, hk => by
    obtain ⟨k, rfl⟩ : ∃ m, k = m + 2 := ⟨k - 2, by omega⟩
    have hi : i < t.size := by omega
    have hx : (t.extract i (i + 1)).size ≤ 1048576 := by rw [ByteArray.size_extract]; omega
    have ih := spec_fits_l0 p b t hb ht hpt l d (i + 1) k (by omega) (by omega)
    have key : ∀ q : Bool, q = ltrB (bt t (i : Int)) → spec_plFits.j1 (k + 1) t (i : Int) q p b l = some (fitsL p b t (d + 1) i) := by
      rintro q rfl
      rw [spec_plFits.j1, if_pos (show (0 : Int) ≤ (i : Int) by omega), if_pos (show (i : Int) < (t.size : Int) by omega), spec_sign]
      simp only [Option.bind_some]
      rw [fitsL, fit_one p b t i hi]
      by_cases c1 : sgnB (bt t (i : Int)) = true
      · rw [if_pos c1, if_pos (show (i : Int) < (p.size : Int) by omega), c1, Bool.true_and]
        by_cases c2 : (ltrB (bt t (i : Int)) != (bt p (i : Int) == 76)) = true
        · rw [if_pos c2, show (ltrB (bt t (i : Int)) == (bt p (i : Int) == 76)) = false by simpa [bne] using c2]
          rfl
        · rw [if_neg c2, show (ltrB (bt t (i : Int)) == (bt p (i : Int) == 76)) = true by simpa [bne] using c2, wrap_id (x := (i : Int) + 1) (by omega) (by omega), if_pos (show (i : Int) ≤ (i : Int) + 1 by omega), if_pos (show (i : Int) + 1 ≤ (t.size : Int) by omega), show ((i : Int) + 1).toNat = i + 1 by omega, show ((i : Int)).toNat = i by omega, has8 b (t.extract i (i + 1)) hb hx k (by omega)]
          simp only [Option.bind_some]
          by_cases c3 : Lib.contains b.data.toList (t.extract i (i + 1)).data.toList = true
          · rw [if_pos c3, c3]; rfl
          · rw [if_neg c3, Bool.eq_false_iff.mpr c3, show (i : Int) + 1 = ((i + 1 : Nat) : Int) by omega, ih]; rfl
      · rw [if_neg c1, Bool.eq_false_iff.mpr c1]; rfl
    rw [spec_plFits.l0, if_pos (show (i : Int) < (t.size : Int) by omega), if_pos (show (0 : Int) ≤ (i : Int) by omega)]
    by_cases c : bt t (i : Int) ≥ 65
    · rw [if_pos c]
      exact key _ (by unfold ltrB; rw [decide_eq_true (show 65 ≤ bt t (i : Int) from c), Bool.true_and])
    · rw [if_neg c]
      exact key _ (by unfold ltrB; rw [decide_eq_false (show ¬ 65 ≤ bt t (i : Int) from c), Bool.false_and])
theorem spec_clean_l0 (t : ByteArray) (ht : t.size ≤ 1048576) (l : List ByteArray) (hl : l.length ≤ 1048576) (hs : ∀ x ∈ l, x.size ≤ 1048576) : ∀ (d i k : Nat), i + d = l.length → d + 1048590 < k →
    spec_plClean.l0 k t l (l.length : Int) (i : Int) = some (cleanB t (l.drop i))
  | 0, i, k, e, hk => by
    obtain ⟨k, rfl⟩ : ∃ m, k = m + 1 := ⟨k - 1, by omega⟩
    rw [spec_plClean.l0, if_neg (show ¬ (i : Int) < (l.length : Int) by omega), List.drop_of_length_le (by omega)]
    rfl
  | d + 1, i, k, e, hk => by
    obtain ⟨k, rfl⟩ : ∃ m, k = m + 1 := ⟨k - 1, by omega⟩
    have hi : i < l.length := by omega
    rw [spec_plClean.l0, if_pos (show (i : Int) < (l.length : Int) by omega), if_pos (show (0 : Int) ≤ (i : Int) by omega), if_pos (show (i : Int) < (l.length : Int) by omega), rdOf_get l i hi, has8 t l[i] ht (hs _ (List.getElem_mem hi)) k (by omega)]
    simp only [Option.bind_some]
    have ih := spec_clean_l0 t ht l hl hs d (i + 1) k (by omega) (by omega)
    unfold cleanB at ih ⊢
    rw [List.drop_eq_getElem_cons hi, List.all_cons]
    by_cases c : Lib.contains t.data.toList l[i].data.toList = true
    · rw [if_pos c, c]; rfl
    · rw [if_neg c, Bool.eq_false_iff.mpr c, wrap_id (x := (i : Int) + 1) (by omega) (by omega), show (i : Int) + 1 = ((i + 1 : Nat) : Int) by omega, ih]
      rfl
def ipT (p b : ByteArray) (l : List ByteArray) (t : ByteArray) : Bool × Bool := if isSchT p b l = true then (decide (t.size = p.size) && (fitsL p b t t.size 0 && cleanB t l), true) else (false, false)
theorem spec_ip (p b : ByteArray) (l : List ByteArray) (t : ByteArray) (hp : p.size ≤ 1048576) (hb : b.size ≤ 1048576) (hl : l.length ≤ 1048576) (hs : ∀ x ∈ l, x.size ≤ 1048576) (ht : t.size ≤ 1048576) (k : Nat) (hk : 8000000 < k) : spec_IsPlate.f k p b l t = some (ipT p b l t) := by
  unfold spec_IsPlate.f ipT spec_plIs.f spec_plFits.f spec_plClean.f
  rw [spec_good8 p b l hp hb hl hs _ (by omega)]
  simp only [Option.bind_some]
  by_cases g : isSchT p b l = true
  · rw [if_pos g, if_pos g]
    by_cases c : t.size = p.size
    · have h1 := spec_fits_l0 p b t hb ht (by omega) l t.size 0 k (by omega) (by omega)
      have h2 := spec_clean_l0 t ht l hl hs l.length 0 k (by omega) (by omega)
      rw [show ((0 : Nat) : Int) = 0 from rfl] at h1 h2
      rw [List.drop_zero] at h2
      rw [if_pos (show (t.size : Int) = (p.size : Int) by omega), if_neg (show ¬ (t.size : Int) > (p.size : Int) by omega), h1, h2, decide_eq_true c]
      cases fitsL p b t t.size 0 <;> simp
    · rw [if_neg (show ¬ (t.size : Int) = (p.size : Int) by omega), decide_eq_false c]
      simp
  · rw [if_neg g, if_neg g]
theorem impl_ip (p b : ByteArray) (l : List ByteArray) (t : ByteArray) (hp : p.size ≤ 1048576) (hb : b.size ≤ 1048576) (hl : l.length ≤ 1048576) (hs : ∀ x ∈ l, x.size ≤ 1048576) (ht : t.size ≤ 1048576) (k : Nat) (hk : 8000000 < k) : impl_IsPlate.f k p b l t = some (ipT p b l t) := by
  unfold impl_IsPlate.f ipT impl_Scheme_isPlate.f
  rw [impl_good8 p b l hp hb hl hs]
  simp only [Option.bind_some]
  by_cases g : isSchT p b l = true
  · rw [if_pos g, if_pos g]
    by_cases c : t.size = p.size
    · have h1 := impl_isPlate_l0 p b t hp ht (by omega) l hl t.size 0 k (by omega) (by omega)
      rw [show ((0 : Nat) : Int) = 0 from rfl] at h1
      rw [if_pos (show (t.size : Int) = (p.size : Int) by omega), h1, decide_eq_true c]
      simp
    · rw [if_neg (show ¬ (t.size : Int) = (p.size : Int) by omega), decide_eq_false c]
      simp
  · rw [if_neg g, if_neg g]
theorem FnExactIsPlate (p b : ByteArray) (l : List ByteArray) (hp : p.size ≤ maxLen) (hb : b.size ≤ maxLen) (hl : l.length ≤ maxLen) (hx : ∀ x ∈ l, x.size ≤ maxLen) (t : ByteArray) (_ : t.size ≤ maxLen) : ∃ k, laws_FnExactIsPlate.f k p b l t = some true := by
  refine ⟨9000003, ?_⟩
  unfold laws_FnExactIsPlate.f
  by_cases hz : (t.size : Int) > 1048576
  · rw [if_pos hz]
  rw [if_neg hz]
  obtain ⟨z, h1, h2⟩ := sz8 p b l hp hb hl hx 9000003 (by omega)
  rw [h1]
  simp only [Option.bind_some]
  by_cases c : z < 0
  · rw [if_pos c]
  rw [if_neg c]
  obtain ⟨q1, q2, q3, q4⟩ := h2 c
  rw [to8 p b l q3 _ (by omega)]
  simp only [Option.bind_some]
  rw [spec_ip p b l t q1 q2 q3 q4 (by omega) _ (by omega), impl_ip p b l t q1 q2 q3 q4 (by omega) _ (by omega)]
  simp only [Option.bind_some]
  rw [bne_self_eq_false, if_neg (by decide), bne_self_eq_false, show (9000003 : Nat) = 9000002 + 1 from rfl, laws_FnExactIsPlate.j0, if_neg (by decide), to8 p b l q3 _ (by omega)]
  simp only [Option.bind_some]
  rw [eq8 p b l q3 _ (by omega)]
  rfl

end Go.Proofs.YtmplmfoacnnieaaDoor.Pure
