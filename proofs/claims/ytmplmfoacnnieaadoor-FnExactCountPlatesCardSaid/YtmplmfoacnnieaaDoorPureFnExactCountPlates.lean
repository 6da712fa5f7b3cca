/- For all schemes the program's CountPlates and the reference's answer alike: the plain law, without conditions. -/
import Derived.Test.YtmplmfoacnnieaaDoorPFnExactCountPlatesx7
set_option linter.unusedVariables false
set_option linter.unusedSimpArgs false
namespace Go.Proofs.YtmplmfoacnnieaaDoor.Pure
open Go.RowKit Go.Proofs.YtmplmfoacnnieaaDoor.PFnExactCountPlates Go.Proofs.YtmplmfoacnnieaaDoorW.PrintWords Go.Proofs.YtmplmfoacnnieaaDoorW.PrintLast Go.Proofs.YtmplmfoacnnieaaDoorW.PrintMore

theorem wrap_id {x : Int} (h0 : -9223372036854775808 ≤ x) (h1 : x < 9223372036854775808) : wrap64 x = x := by
  unfold wrap64
  omega
theorem lit_wf {x : Int} (h : (Lit.int .i64 x).wf = true) : -9223372036854775808 ≤ x ∧ x < 9223372036854775808 := by
  have h2 := h
  simp [Lit.wf, IntKind.min, IntKind.max, IntKind.bits, IntKind.signed] at h2
  omega
theorem wrap_add (x y : Int) : wrap64 (wrap64 x + y) = wrap64 (x + y) := by
  have e : ∀ (m c : Int), ((x + c) % m - c + y + c) % m = (x + y + c) % m := fun m c => by
    have h1 : (x + c) % m - c + y + c = (x + c) % m + y := by generalize (x + c) % m = q; omega
    rw [h1, Int.emod_add_emod, show x + c + y = x + y + c by omega]
  unfold wrap64
  rw [e]
theorem wrap_sub (x y : Int) : wrap64 (wrap64 x - y) = wrap64 (x - y) := by
  rw [Int.sub_eq_add_neg, wrap_add, Int.sub_eq_add_neg]

theorem son_size (l : List Int) : (strOfNums l).size = l.length := by simp [strOfNums, ByteArray.size]
theorem son_nil : (⟨#[]⟩ : ByteArray) = strOfNums [] := rfl
theorem son_append (l m : List Int) : strOfNums l ++ strOfNums m = strOfNums (l ++ m) := by
  apply ByteArray.ext
  simp [strOfNums]
theorem son_extract (l : List Int) (i j : Nat) : (strOfNums l).extract i j = strOfNums ((l.take j).drop i) := by
  apply ByteArray.ext
  rw [ByteArray.data_extract]
  apply Array.ext'
  simp [strOfNums, Array.toList_extract, List.extract, List.map_take, List.map_drop, List.drop_take]
def byts (l : List Int) : Prop := ∀ c ∈ l, 0 ≤ c ∧ c < 256
theorem son_bt (l : List Int) (h : byts l) (i : Nat) (hi : i < l.length) : bt (strOfNums l) i = l[i] := by
  unfold bt
  have h1 : (i : Int).toNat < (strOfNums l).size := by rw [son_size]; simpa using hi
  rw [dif_pos h1]
  have h2 := h l[i] (List.getElem_mem hi)
  have h3 : ((strOfNums l)[(i : Int).toNat]'h1) = UInt8.ofNat (l[i]).toNat := by
    show (strOfNums l).data[(i : Int).toNat] = _
    simp [strOfNums]
  rw [h3]
  simp
  omega
theorem bytesOf_byts (s : ByteArray) : byts (bytesOf s) := by
  intro c hc
  simp only [bytesOf, List.mem_map] at hc
  obtain ⟨b, _, rfl⟩ := hc
  have := b.toNat_lt
  omega
theorem son_bytesOf (s : ByteArray) : strOfNums (bytesOf s) = s := by
  apply ByteArray.ext
  apply Array.ext'
  simp [strOfNums, bytesOf, Function.comp_def]
def digs (l : List Int) : Prop := ∀ c ∈ l, 48 ≤ c ∧ c ≤ 57
theorem digs_byts {l : List Int} (h : digs l) : byts l := fun c hc => by have := h c hc; omega
theorem digs_append {l m : List Int} (h : digs l) (k : digs m) : digs (l ++ m) := fun c hc => by
  rcases List.mem_append.mp hc with hc | hc
  · exact h c hc
  · exact k c hc
theorem digs_one {c : Int} (h : 48 ≤ c ∧ c ≤ 57) : digs [c] := fun x hx => by simp at hx; subst hx; exact h
theorem digs_take {l : List Int} (h : digs l) (n : Nat) : digs (l.take n) := fun c hc => h c (List.mem_of_mem_take hc)
theorem digs_drop {l : List Int} (h : digs l) (n : Nat) : digs (l.drop n) := fun c hc => h c (List.mem_of_mem_drop hc)
def sN : List Int → Int
  | [] => 0
  | c :: l => (c - 48) + sN l
theorem sN_append (l m : List Int) : sN (l ++ m) = sN l + sN m := by
  induction l with
  | nil => simp [sN]
  | cons c l ih => simp [sN, ih]; omega
theorem sN_range (l : List Int) (h : digs l) : 0 ≤ sN l ∧ sN l ≤ 9 * l.length := by
  induction l with
  | nil => simp [sN]
  | cons c l ih =>
    have h1 := h c (by simp)
    have h2 := ih (fun x hx => h x (by simp [hx]))
    simp [sN]; omega

theorem loop_len (s : ByteArray) (i : Nat) (r : List UInt8) : r.length ≤ (ByteArray.toList.loop s i r).length := by
  fun_induction ByteArray.toList.loop s i r with
  | case1 i r h ih => simp only [List.length_cons] at ih; omega
  | case2 i r h => simp
theorem toList_ne (s : ByteArray) (h : 0 < s.size) : ¬ (s.toList = ([] : List UInt8)) := by
  intro e
  unfold ByteArray.toList ByteArray.toList.loop at e
  rw [if_pos h] at e
  have := loop_len s (0 + 1) [s.get! 0]
  rw [e] at this
  simp at this
theorem toList_nil {s : ByteArray} (h : s.size = 0) : s.toList = ([] : List UInt8) := by
  unfold ByteArray.toList ByteArray.toList.loop
  rw [if_neg (by omega)]
  rfl
theorem toList_iff (s : ByteArray) : s.toList = ([] : List UInt8) ↔ s.size = 0 :=
  ⟨fun h => Decidable.byContradiction fun q => toList_ne s (by omega) h, fun h => toList_nil h⟩

theorem allS_bt (s : ByteArray) : ∀ (d i : Nat), allS s d i = true → ∀ j : Nat, i ≤ j → j < i + d → sgnB (bt s j) = true
  | 0, i, _, j, h1, h2 => by omega
  | d + 1, i, h, j, h1, h2 => by
    simp only [allS, Bool.and_eq_true] at h
    by_cases e : j = i
    · subst e; exact h.1
    · exact allS_bt s d (i + 1) h.2 j (by omega) (by omega)
theorem spec_sign (c : Int) : spec_plSign.f c = some (sgnB c) := by
  unfold spec_plSign.f sgnB
  by_cases h1 : c ≥ 65
  · have a1 : 65 ≤ c := h1
    rw [if_pos h1]
    by_cases h2 : c ≤ 90
    · rw [if_pos h2]; simp [a1, h2]
    · have a2 : ¬ c ≤ 57 := by omega
      rw [if_neg h2, if_pos (by omega)]; simp [h2, a2]
  · have a1 : ¬ 65 ≤ c := h1
    rw [if_neg h1]
    by_cases h3 : c ≥ 48
    · have a3 : 48 ≤ c := h3
      rw [if_pos h3]; simp [a1, a3]
    · have a3 : ¬ 48 ≤ c := h3
      rw [if_neg h3]; simp [a1, a3]
theorem spec_signs_l0 (s : ByteArray) (hn : s.size ≤ 1048576) : ∀ (d i k : Nat), i + d = s.size → d < k → spec_plSigns.l0 k s i = some (allS s d i)
  | 0, i, k, h, hk => by
    obtain ⟨k, rfl⟩ : ∃ m, k = m + 1 := ⟨k - 1, by omega⟩
    simp only [spec_plSigns.l0, allS]
    rw [if_neg (by omega)]
  | d + 1, i, k, h, hk => by
    obtain ⟨k, rfl⟩ : ∃ m, k = m + 1 := ⟨k - 1, by omega⟩
    simp only [spec_plSigns.l0, allS]
    rw [if_pos (by omega), if_pos (by omega), spec_sign]
    simp only [Option.bind_some]
    by_cases c : sgnB (bt s i) = true
    · rw [if_pos c, c, Bool.true_and, wrap_id (by omega) (by omega)]
      exact spec_signs_l0 s hn d (i + 1) k (by omega) (by omega)
    · rw [if_neg c]
      simp only [Bool.not_eq_true] at c
      rw [c]; rfl
theorem spec_signs (s : ByteArray) (lo hi : Int) (hn : s.size ≤ 1048576) (k : Nat) (hk : s.size < k) : spec_plSigns.f k s lo hi = some (signsB s lo hi) := by
  unfold spec_plSigns.f spec_l1In.f signsB
  by_cases h1 : (s.size : Int) ≥ lo
  · rw [if_pos h1]; simp only [Option.bind_some]
    by_cases h2 : (s.size : Int) ≤ hi
    · rw [if_pos (by simpa using h2)]
      have := spec_signs_l0 s hn s.size 0 k (by omega) hk
      rw [show ((0 : Nat) : Int) = 0 from rfl] at this
      rw [this]
      simp [h1, h2]
    · rw [if_neg (by simpa using h2)]
      simp [h2]
  · rw [if_neg h1]; simp only [Option.bind_some]
    rw [if_neg (by simp)]
    simp [h1]

theorem rdOf_get (l : List ByteArray) (i : Nat) (h : i < l.length) : rdOf ByteArray.empty l (i : Int) = l[i] := by
  unfold rdOf
  simp [h]
theorem in8 (a lo hi : Int) : spec_l1In.f a lo hi = some (decide (lo ≤ a) && decide (a ≤ hi)) := by
  unfold spec_l1In.f
  by_cases h1 : a ≥ lo
  · rw [if_pos h1]; simp; omega
  · rw [if_neg h1]; simp; omega
theorem within8 (a lo hi : Int) : impl_within.f a lo hi = some (decide (lo ≤ a) && decide (a ≤ hi)) := by
  unfold impl_within.f
  by_cases h1 : lo ≤ a
  · rw [if_pos h1]; simp [h1]
  · rw [if_neg h1]; simp; omega
theorem bt_list (p : ByteArray) (i : Nat) (h : i < p.data.toList.length) : bt p (i : Int) = ((p.data.toList[i]).toNat : Int) := by
  unfold bt
  have hd : p.data.toList.length = p.data.size := Array.length_toList
  have h1 : (i : Int).toNat < p.size := by
    show (i : Int).toNat < p.data.size
    omega
  rw [dif_pos h1]
  show ((p.data[i]'(by simpa using h)).toNat : Int) = _
  simp
def allLD (p : ByteArray) : Nat → Nat → Bool
  | 0, _ => true
  | d + 1, i => (decide (bt p i = 76) || decide (bt p i = 68)) && allLD p d (i + 1)
theorem allLD_list (p : ByteArray) : ∀ d i, i + d = p.data.toList.length → allLD p d i = (p.data.toList.drop i).all fun b => [76, 68].contains b
  | 0, i, h => by rw [List.drop_of_length_le (by omega)]; rfl
  | d + 1, i, h => by
    have hi : i < p.data.toList.length := by omega
    rw [allLD, allLD_list p d (i + 1) (by omega), List.drop_eq_getElem_cons hi, List.all_cons, bt_list p i hi]
    congr 1
    generalize p.data.toList[i] = c
    have e1 : ((c.toNat : Int) = 76) ↔ c = 76 := by
      constructor
      · intro q; apply UInt8.toNat_inj.mp; show c.toNat = 76; omega
      · rintro rfl; rfl
    have e2 : ((c.toNat : Int) = 68) ↔ c = 68 := by
      constructor
      · intro q; apply UInt8.toNat_inj.mp; show c.toNat = 68; omega
      · rintro rfl; rfl
    simp [e1, e2, Bool.decide_or]
theorem dw_nil (q : UInt8 → Bool) : ∀ l : List UInt8, l.dropWhile q = [] ↔ ∀ b ∈ l, q b = true
  | [] => by simp
  | a :: l => by
    rw [List.dropWhile_cons]
    by_cases c : q a = true
    · rw [if_pos c, dw_nil q l]; simp [c]
    · rw [if_neg c]; simp [c]
theorem trimS_nil (l cs : List UInt8) : Lib.trimS l cs = [] ↔ ∀ b ∈ l, cs.contains b = true := by
  unfold Lib.trimS Lib.trimLeftS Lib.trimRightS
  constructor
  · intro h
    rw [dw_nil] at h
    have h0 : l.reverse.dropWhile (cs.contains ·) = [] := by
      cases hq : l.reverse.dropWhile (cs.contains ·) with
      | nil => rfl
      | cons a r =>
        have h1 := List.head?_dropWhile_not (cs.contains ·) l.reverse
        rw [hq] at h1
        simp only [List.head?_cons] at h1
        have h2 := h a (by rw [hq]; simp)
        simp_all
    rw [dw_nil] at h0
    intro b hb
    exact h0 b (by simpa using hb)
  · intro h
    have h0 : l.reverse.dropWhile (cs.contains ·) = [] := by
      rw [dw_nil]
      intro b hb
      exact h b (by simpa using hb)
    rw [h0]
    rfl
theorem trim8 (p : ByteArray) : trimT p = allLD p p.size 0 := by
  have hsz : p.size = p.data.toList.length := Array.length_toList.symm
  rw [allLD_list p p.size 0 (by omega), List.drop_zero]
  unfold trimT
  have h1 : (trimZ p).toList = ([] : List UInt8) ↔ Lib.trimS p.data.toList [76, 68] = [] := by
    rw [toList_iff]
    unfold trimZ
    show (Lib.trimS p.data.toList [76, 68]).toArray.size = 0 ↔ _
    rw [List.size_toArray, List.length_eq_zero_iff]
  rw [trimS_nil] at h1
  rw [Bool.eq_iff_iff, beq_iff_eq, h1, List.all_eq_true]
theorem good_l2 (l : List ByteArray) (hl : l.length ≤ 1048576) (hs : ∀ x ∈ l, x.size ≤ 1048576) : ∀ d i k : Nat, i + d = l.length → d + 1048580 < k →
    spec_plGood.l2 k l (l.length : Int) (i : Int) = some ((l.drop i).all fun x => signsB x 1 4)
  | 0, i, k, e, hk => by
    obtain ⟨k, rfl⟩ : ∃ m, k = m + 1 := ⟨k - 1, by omega⟩
    rw [spec_plGood.l2, if_neg (show ¬ (i : Int) < (l.length : Int) by omega), List.drop_of_length_le (by omega)]
    rfl
  | d + 1, i, k, e, hk => by
    obtain ⟨k, rfl⟩ : ∃ m, k = m + 1 := ⟨k - 1, by omega⟩
    have hi : i < l.length := by omega
    rw [spec_plGood.l2, if_pos (show (i : Int) < (l.length : Int) by omega), if_pos (show (0 : Int) ≤ (i : Int) by omega), if_pos (show (i : Int) < (l.length : Int) by omega), rdOf_get l i hi, spec_signs l[i] 1 4 (hs _ (List.getElem_mem hi)) k (by have := hs _ (List.getElem_mem hi); omega)]
    simp only [Option.bind_some]
    rw [List.drop_eq_getElem_cons hi, List.all_cons]
    by_cases c : signsB l[i] 1 4 = true
    · rw [if_pos c, c, Bool.true_and, wrap_id (x := (i : Int) + 1) (by omega) (by omega)]
      exact good_l2 l hl hs d (i + 1) k (by omega) (by omega)
    · rw [if_neg c, Bool.eq_false_iff.mpr c]; rfl
theorem good_l1 (p b : ByteArray) (l : List ByteArray) (hb : b.size ≤ 1048576) (hl : l.length ≤ 1048576) (hs : ∀ x ∈ l, x.size ≤ 1048576) : ∀ d i k : Nat, 1 ≤ i → (i + d = b.size ∨ (d = 0 ∧ b.size ≤ i)) → d + l.length + 1048590 < k →
    spec_plGood.l1 k (i : Int) p b l = some (risesL d b (i : Int) && l.all fun x => signsB x 1 4)
  | 0, i, k, h1, e, hk => by
    obtain ⟨k, rfl⟩ : ∃ m, k = m + 1 := ⟨k - 1, by omega⟩
    have := good_l2 l hl hs l.length 0 k (by omega) (by omega)
    rw [List.drop_zero] at this
    rw [spec_plGood.l1, if_neg (show ¬ (i : Int) < (b.size : Int) by omega), risesL, Bool.true_and]
    exact this
  | d + 1, i, k, h1, e, hk => by
    obtain ⟨k, rfl⟩ : ∃ m, k = m + 1 := ⟨k - 1, by omega⟩
    rw [spec_plGood.l1, if_pos (show (i : Int) < (b.size : Int) by omega), wrap_id (x := (i : Int) - 1) (by omega) (by omega), if_pos (show (0 : Int) ≤ (i : Int) - 1 by omega), if_pos (show (i : Int) - 1 < (b.size : Int) by omega), if_pos (show (0 : Int) ≤ (i : Int) by omega), risesL]
    by_cases c : bt b (i : Int) ≤ bt b ((i : Int) - 1)
    · rw [if_pos c, if_pos c]; rfl
    · rw [if_neg c, if_neg c, wrap_id (x := (i : Int) + 1) (by omega) (by omega), show (i : Int) + 1 = ((i + 1 : Nat) : Int) by omega]
      exact good_l1 p b l hb hl hs d (i + 1) k (by omega) (by omega) (by omega)
theorem good_l0 (p b : ByteArray) (l : List ByteArray) (hp : p.size ≤ 1048576) (hb : b.size ≤ 1048576) (hl : l.length ≤ 1048576) (hs : ∀ x ∈ l, x.size ≤ 1048576) : ∀ d i k : Nat, i + d = p.size → d + 5000000 < k →
    spec_plGood.l0 k (i : Int) p b l = some (allLD p d i && (risesL (b.size - 1) b 1 && l.all fun x => signsB x 1 4))
  | 0, i, k, e, hk => by
    obtain ⟨k, rfl⟩ : ∃ m, k = m + 1 := ⟨k - 1, by omega⟩
    rw [spec_plGood.l0, if_neg (show ¬ (i : Int) < (p.size : Int) by omega), allLD, Bool.true_and]
    exact good_l1 p b l hb hl hs (b.size - 1) 1 k (by omega) (by omega) (by omega)
  | d + 1, i, k, e, hk => by
    obtain ⟨k, rfl⟩ : ∃ m, k = m + 1 := ⟨k - 1, by omega⟩
    have ih := good_l0 p b l hp hb hl hs d (i + 1) k (by omega) (by omega)
    rw [spec_plGood.l0, if_pos (show (i : Int) < (p.size : Int) by omega), if_pos (show (0 : Int) ≤ (i : Int) by omega), wrap_id (x := (i : Int) + 1) (by omega) (by omega), show (i : Int) + 1 = ((i + 1 : Nat) : Int) by omega, allLD]
    by_cases c : bt p (i : Int) = 76
    · rw [if_pos c, ih]; simp [c]
    · rw [if_neg c]
      by_cases c2 : bt p (i : Int) = 68
      · rw [if_pos c2, ih]; simp [c2]
      · rw [if_neg c2]; simp [c, c2]
theorem spec_good8 (p b : ByteArray) (l : List ByteArray) (hp : p.size ≤ 1048576) (hb : b.size ≤ 1048576) (hl : l.length ≤ 1048576) (hs : ∀ x ∈ l, x.size ≤ 1048576) (k : Nat) (hk : 7000000 < k) : spec_plGood.f k p b l = some (isSchT p b l) := by
  have hn : (l.any fun x => !signsB x 1 4) = !(l.all fun x => signsB x 1 4) := by
    induction l with
    | nil => rfl
    | cons a l ih => rw [List.any_cons, List.all_cons, ih (by simp at hl; omega) (fun x hx => hs x (List.mem_cons_of_mem _ hx)), Bool.not_and]
  obtain ⟨k, rfl⟩ : ∃ m, k = m + 1 := ⟨k - 1, by omega⟩
  have h0 := good_l0 p b l hp hb hl hs p.size 0 k (by omega) (by omega)
  rw [show ((0 : Nat) : Int) = 0 from rfl] at h0
  unfold spec_plGood.f isSchT
  rw [in8, spec_signs b 0 36 hb _ (by omega), hn, Bool.not_not, trim8]
  simp only [Option.bind_some, spec_plGood.j0]
  rw [h0]
  by_cases c1 : (decide (1 ≤ (p.size : Int)) && decide ((p.size : Int) ≤ 8)) = true
  · rw [if_pos c1, c1]
    by_cases c2 : signsB b 0 36 = true
    · rw [if_pos c2, c2]
      by_cases c3 : l.length ≤ 3
      · rw [if_neg (by simp; omega), decide_eq_true c3]
        simp only [Bool.true_and, Bool.and_assoc, Bool.and_true]
        congr 1
        cases allLD p p.size 0 <;> cases risesL (b.size - 1) b 1 <;> rfl
      · rw [if_pos (by simp; omega), decide_eq_false c3]
        simp
    · rw [if_neg c2, if_pos trivial, Bool.eq_false_iff.mpr c2]
      simp
  · rw [if_neg c1, if_pos trivial, Bool.eq_false_iff.mpr c1]
    simp
/-! how large it is, its copy, and whether two are alike -/
theorem sz_l0 (l : List ByteArray) (hl : l.length ≤ 1048576) (hx : ∀ x ∈ l, x.size ≤ 9223372036854775807) : ∀ (d i : Nat) (a : Int) (k : Nat), i + d = l.length → 0 ≤ a → a ≤ 1048576 → d < k →
    ∃ t, laws_szStringS.l0 k l a (i : Int) = some t ∧ (0 ≤ t → ∀ x ∈ l.drop i, x.size ≤ 1048576)
  | 0, i, a, k, e, h0, h1, hk => by
    obtain ⟨k, rfl⟩ : ∃ m, k = m + 1 := ⟨k - 1, by omega⟩
    rw [laws_szStringS.l0, if_neg (show ¬ (i : Int) < (l.length : Int) by omega)]
    exact ⟨a, rfl, fun _ x hx => by rw [List.drop_of_length_le (by omega)] at hx; simp at hx⟩
  | d + 1, i, a, k, e, h0, h1, hk => by
    obtain ⟨k, rfl⟩ : ∃ m, k = m + 1 := ⟨k - 1, by omega⟩
    have hi : i < l.length := by omega
    have hxi := hx l[i] (List.getElem_mem hi)
    rw [laws_szStringS.l0, if_pos (show (i : Int) < (l.length : Int) by omega), if_pos (show (0 : Int) ≤ (i : Int) by omega), rdOf_get l i hi, wrap_id (x := a - (l[i].size : Int)) (by omega) (by omega), wrap_id (x := (i : Int) + 1) (by omega) (by omega), show (i : Int) + 1 = ((i + 1 : Nat) : Int) by omega]
    by_cases c : a - (l[i].size : Int) < 0
    · rw [if_pos c]; exact ⟨-1, rfl, fun h => absurd h (by omega)⟩
    · rw [if_neg c]
      obtain ⟨t, h2, h3⟩ := sz_l0 l hl hx d (i + 1) (a - (l[i].size : Int)) k (by omega) (by omega) (by omega) (by omega)
      refine ⟨t, h2, fun ht x hx2 => ?_⟩
      rw [List.drop_eq_getElem_cons hi] at hx2
      rcases List.mem_cons.mp hx2 with rfl | hx2
      · omega
      · exact h3 ht x hx2
theorem sz8 (p b : ByteArray) (l : List ByteArray) (hp : p.size ≤ maxLen) (hb : b.size ≤ maxLen) (hl : l.length ≤ maxLen) (hx : ∀ x ∈ l, x.size ≤ maxLen) (k : Nat) (hk : 1048580 < k) :
    ∃ t, laws_szScheme.f k p b l 1048576 = some t ∧ (¬ t < 0 → p.size ≤ 1048576 ∧ b.size ≤ 1048576 ∧ l.length ≤ 1048576 ∧ ∀ x ∈ l, x.size ≤ 1048576) := by
  have hm : maxLen = 9223372036854775807 := rfl
  rw [hm] at hp hb hl
  unfold laws_szScheme.f
  rw [wrap_id (x := 1048576 - (p.size : Int)) (by omega) (by omega)]
  by_cases c1 : (1048576 : Int) - (p.size : Int) < 0
  · rw [if_pos c1]; exact ⟨-1, rfl, fun h => absurd (show (-1 : Int) < 0 by decide) h⟩
  rw [if_neg c1, wrap_id (x := 1048576 - (p.size : Int) - (b.size : Int)) (by omega) (by omega)]
  by_cases c2 : (1048576 : Int) - (p.size : Int) - (b.size : Int) < 0
  · rw [if_pos c2]; exact ⟨-1, rfl, fun h => absurd (show (-1 : Int) < 0 by decide) h⟩
  rw [if_neg c2]
  unfold laws_szStringS.f
  rw [wrap_id (x := 1048576 - (p.size : Int) - (b.size : Int) - (l.length : Int)) (by omega) (by omega)]
  by_cases c3 : (1048576 : Int) - (p.size : Int) - (b.size : Int) - (l.length : Int) < 0
  · rw [if_pos c3]; exact ⟨-1, rfl, fun h => absurd (show (-1 : Int) < 0 by decide) h⟩
  rw [if_neg c3]
  obtain ⟨t, h2, h3⟩ := sz_l0 l (by omega) (fun x h => by rw [← hm]; exact hx x h) l.length 0 (1048576 - (p.size : Int) - (b.size : Int) - (l.length : Int)) k (by omega) (by omega) (by omega) (by omega)
  rw [show ((0 : Nat) : Int) = 0 from rfl] at h2
  rw [h2]
  simp only [Option.bind_some]
  rw [List.drop_zero] at h3
  by_cases c4 : t < 0
  · rw [if_pos c4]; exact ⟨-1, rfl, fun h => absurd (show (-1 : Int) < 0 by decide) h⟩
  · rw [if_neg c4]; exact ⟨t, rfl, fun _ => ⟨by omega, by omega, by omega, h3 (by omega)⟩⟩
theorem to_l0 (l : List ByteArray) (hl : l.length ≤ 1048576) : ∀ (d i k : Nat) (o : List ByteArray), i + d = l.length → o.length = l.length → o.take i = l.take i → d < k →
    laws_toStringS.l0 k l o (i : Int) = some l
  | 0, i, k, o, e, ho, ht, hk => by
    obtain ⟨k, rfl⟩ : ∃ m, k = m + 1 := ⟨k - 1, by omega⟩
    rw [laws_toStringS.l0, if_neg (show ¬ (i : Int) < (l.length : Int) by omega)]
    rw [List.take_of_length_le (by omega), List.take_of_length_le (by omega)] at ht
    rw [ht]
  | d + 1, i, k, o, e, ho, ht, hk => by
    obtain ⟨k, rfl⟩ : ∃ m, k = m + 1 := ⟨k - 1, by omega⟩
    have hi : i < l.length := by omega
    rw [laws_toStringS.l0, if_pos (show (i : Int) < (l.length : Int) by omega), if_pos (show (0 : Int) ≤ (i : Int) by omega), if_pos (show (i : Int) < (o.length : Int) by omega), rdOf_get l i hi, show ((i : Int)).toNat = i by omega, wrap_id (x := (i : Int) + 1) (by omega) (by omega), show (i : Int) + 1 = ((i + 1 : Nat) : Int) by omega]
    refine to_l0 l hl d (i + 1) k _ (by omega) (by simpa using ho) ?_ (by omega)
    rw [List.take_succ_eq_append_getElem (by simpa using (by omega : i < o.length)), List.take_succ_eq_append_getElem hi, List.take_set_of_le (Nat.le_refl i), ht]
    simp
theorem to8 (p b : ByteArray) (l : List ByteArray) (hl : l.length ≤ 1048576) (k : Nat) (hk : 1048580 < k) : laws_toScheme.f k p b l = some (p, b, l) := by
  unfold laws_toScheme.f laws_toStringS.f
  have h := to_l0 l hl l.length 0 k (List.replicate l.length (⟨#[]⟩ : ByteArray)) (by omega) (by simp) (by simp) (by omega)
  rw [show ((0 : Nat) : Int) = 0 from rfl] at h
  rw [if_pos (show (0 : Int) ≤ (l.length : Int) by omega), show ((l.length : Int)).toNat = l.length by omega, if_pos (by omega), h]
  rfl
theorem eqS_l0 (l : List ByteArray) (hl : l.length ≤ 1048576) : ∀ d i k : Nat, i + d = l.length → d < k → laws_eqStringS.l0 k l l (i : Int) = some true
  | 0, i, k, e, hk => by
    obtain ⟨k, rfl⟩ : ∃ m, k = m + 1 := ⟨k - 1, by omega⟩
    rw [laws_eqStringS.l0, if_neg (show ¬ (i : Int) < (l.length : Int) by omega)]
  | d + 1, i, k, e, hk => by
    obtain ⟨k, rfl⟩ : ∃ m, k = m + 1 := ⟨k - 1, by omega⟩
    rw [laws_eqStringS.l0, if_pos (show (i : Int) < (l.length : Int) by omega), if_pos (show (0 : Int) ≤ (i : Int) by omega), if_pos (show (i : Int) < (l.length : Int) by omega), if_pos rfl, wrap_id (x := (i : Int) + 1) (by omega) (by omega), show (i : Int) + 1 = ((i + 1 : Nat) : Int) by omega]
    exact eqS_l0 l hl d (i + 1) k (by omega) (by omega)
theorem eq8 (p b : ByteArray) (l : List ByteArray) (hl : l.length ≤ 1048576) (k : Nat) (hk : 1048580 < k) : laws_eqScheme.f k p b l p b l = some true := by
  unfold laws_eqScheme.f laws_eqStringS.f
  have h := eqS_l0 l hl l.length 0 k (by omega) (by omega)
  rw [show ((0 : Nat) : Int) = 0 from rfl] at h
  rw [if_pos rfl, if_pos rfl, if_pos rfl, h]
  rfl
theorem small8 {p b : ByteArray} {l : List ByteArray} (hp : p.size ≤ 1048576) (hb : b.size ≤ 1048576) (hl : l.length ≤ 1048576) (hs : ∀ x ∈ l, x.size ≤ 1048576) : smallS p b l = true := by
  simp only [smallS, Bool.and_eq_true, decide_eq_true_eq, List.all_eq_true]
  exact ⟨⟨⟨hp, hb⟩, hl⟩, hs⟩
theorem impl_good8 (p b : ByteArray) (l : List ByteArray) (hp : p.size ≤ 1048576) (hb : b.size ≤ 1048576) (hl : l.length ≤ 1048576) (hs : ∀ x ∈ l, x.size ≤ 1048576) : impl_IsScheme.f p b l = some (isSchT p b l) := by
  unfold impl_IsScheme.f
  rw [if_pos (small8 hp hb hl hs)]

theorem occ_iff (s w : ByteArray) (i : Nat) (h : i + w.size ≤ s.size) : (s.extract i (i + w.size)).toList = w.toList ↔ Lib.occAt s.data.toList w.data.toList i = true := by
  rw [Lib.toList_data, Lib.toList_data]
  have e : (s.extract i (i + w.size)).data.toList = (s.data.toList.drop i).take w.data.toList.length := by
    rw [ByteArray.data_extract, Array.toList_extract, List.extract]
    congr 1
    have : w.data.toList.length = w.size := Array.length_toList
    omega
  rw [e]
  unfold Lib.occAt
  rw [List.isPrefixOf_iff_prefix, List.prefix_iff_eq_take]
  exact eq_comm
theorem has_l0 (s w : ByteArray) (hs : s.size ≤ 1048576) (hw : w.size ≤ 1048576) : ∀ d i k : Nat, (i + d = s.size + 1 - w.size ∨ (d = 0 ∧ s.size + 1 - w.size ≤ i)) → d < k → i ≤ 2000000 → (∀ j, j < i → Lib.occAt s.data.toList w.data.toList j = false) →
    spec_plHas.l0 k s w (i : Int) = some (Lib.contains s.data.toList w.data.toList)
  | 0, i, k, e, hk, hi, hn => by
    obtain ⟨k, rfl⟩ : ∃ m, k = m + 1 := ⟨k - 1, by omega⟩
    have h0 : Lib.index s.data.toList w.data.toList = -1 := Lib.index_none fun j hj => by
      by_cases c : j < i
      · exact hn j c
      · cases ho : Lib.occAt s.data.toList w.data.toList j with
        | false => rfl
        | true =>
          exfalso
          unfold Lib.occAt at ho
          rw [List.isPrefixOf_iff_prefix] at ho
          have h1 := ho.length_le
          rw [List.length_drop] at h1
          have h2 : w.data.toList.length = w.size := Array.length_toList
          have h3 : s.data.toList.length = s.size := Array.length_toList
          omega
    rw [spec_plHas.l0, wrap_id (x := (i : Int) + (w.size : Int)) (by omega) (by omega), if_neg (show ¬ (i : Int) + (w.size : Int) ≤ (s.size : Int) by omega)]
    unfold Lib.contains
    rw [h0]
    rfl
  | d + 1, i, k, e, hk, hi, hn => by
    obtain ⟨k, rfl⟩ : ∃ m, k = m + 1 := ⟨k - 1, by omega⟩
    have hr : i + w.size ≤ s.size := by omega
    rw [spec_plHas.l0, wrap_id (x := (i : Int) + (w.size : Int)) (by omega) (by omega), if_pos (show (i : Int) + (w.size : Int) ≤ (s.size : Int) by omega), if_pos (show (0 : Int) ≤ (i : Int) by omega), if_pos (show (i : Int) ≤ (i : Int) + (w.size : Int) by omega), show ((i : Int) + (w.size : Int)).toNat = i + w.size by omega, show ((i : Int)).toNat = i by omega]
    by_cases c : (s.extract i (i + w.size)).toList = w.toList
    · rw [if_pos c]
      have ho := (occ_iff s w i hr).1 c
      have h3 : s.data.toList.length = s.size := Array.length_toList
      have h0 := Lib.index_first (s := s.data.toList) (sub := w.data.toList) (i := i) (by omega) ho hn
      unfold Lib.contains
      rw [h0]
      simp
    · rw [if_neg c, wrap_id (x := (i : Int) + 1) (by omega) (by omega), show (i : Int) + 1 = ((i + 1 : Nat) : Int) by omega]
      refine has_l0 s w hs hw d (i + 1) k (by omega) (by omega) (by omega) (fun j hj => ?_)
      rcases Nat.lt_succ_iff_lt_or_eq.mp hj with h | rfl
      · exact hn j h
      · exact Bool.eq_false_iff.mpr fun q => c ((occ_iff s w j hr).2 q)
theorem has8 (s w : ByteArray) (hs : s.size ≤ 1048576) (hw : w.size ≤ 1048576) (k : Nat) (hk : 1048580 < k) : spec_plHas.f k s w = some (Lib.contains s.data.toList w.data.toList) := by
  unfold spec_plHas.f
  have h := has_l0 s w hs hw (s.size + 1 - w.size) 0 k (by omega) (by omega) (by omega) (fun j hj => absurd hj (Nat.not_lt_zero j))
  rw [show ((0 : Nat) : Int) = 0 from rfl] at h
  exact h
def wIdx (t : ByteArray) : List ByteArray → Int → List Int
  | [], _ => []
  | x :: l, i => if Lib.contains t.data.toList x.data.toList = true then i :: wIdx t l (i + 1) else wIdx t l (i + 1)
theorem wIdx_len (t : ByteArray) : ∀ (l : List ByteArray) (i : Int), (wIdx t l i).length ≤ l.length
  | [], _ => Nat.le_refl _
  | x :: l, i => by
    have := wIdx_len t l (i + 1)
    rw [wIdx]
    split
    · simp; omega
    · simp; omega
theorem impl_words_l0 (t : ByteArray) (ht : t.size ≤ 1048576) (l : List ByteArray) (hl : l.length ≤ 1048576) : ∀ (d i k : Nat) (o : List Int), i + d = l.length → o.length ≤ i → d < k →
    impl_Scheme_wordsIn.l0 k t o l (l.length : Int) (i : Int) = some (o ++ wIdx t (l.drop i) (i : Int))
  | 0, i, k, o, e, ho, hk => by
    obtain ⟨k, rfl⟩ : ∃ m, k = m + 1 := ⟨k - 1, by omega⟩
    rw [impl_Scheme_wordsIn.l0, if_neg (show ¬ (i : Int) < (l.length : Int) by omega), List.drop_of_length_le (by omega), wIdx, List.append_nil]
  | d + 1, i, k, o, e, ho, hk => by
    obtain ⟨k, rfl⟩ : ∃ m, k = m + 1 := ⟨k - 1, by omega⟩
    have hi : i < l.length := by omega
    have hc : strings_Contains.f t l[i] = some (Lib.contains t.data.toList l[i].data.toList) := by unfold strings_Contains.f; rw [if_pos (by omega)]
    rw [impl_Scheme_wordsIn.l0, if_pos (show (i : Int) < (l.length : Int) by omega), if_pos (show (0 : Int) ≤ (i : Int) by omega), if_pos (show (i : Int) < (l.length : Int) by omega), rdOf_get l i hi, hc]
    simp only [Option.bind_some]
    rw [List.drop_eq_getElem_cons hi, wIdx, wrap_id (x := (i : Int) + 1) (by omega) (by omega), show (i : Int) + 1 = ((i + 1 : Nat) : Int) by omega]
    by_cases c : Lib.contains t.data.toList l[i].data.toList = true
    · rw [if_pos c, if_pos c, if_pos (by omega), impl_words_l0 t ht l hl d (i + 1) k (o ++ [(i : Int)]) (by omega) (by simp; omega) (by omega), List.append_assoc]
      rfl
    · rw [if_neg c, if_neg c]
      exact impl_words_l0 t ht l hl d (i + 1) k o (by omega) (by omega) (by omega)
theorem impl_words (p b t : ByteArray) (ht : t.size ≤ 1048576) (l : List ByteArray) (hl : l.length ≤ 1048576) (k : Nat) (hk : 1048580 < k) : impl_Scheme_wordsIn.f k p b l t = some (wIdx t l 0) := by
  unfold impl_Scheme_wordsIn.f
  have h := impl_words_l0 t ht l hl l.length 0 k [] (by omega) (by simp) (by omega)
  rw [show ((0 : Nat) : Int) = 0 from rfl] at h
  rw [h, List.drop_zero, List.nil_append]

def barB (b : ByteArray) (c : Int) : Bool := decide (Lib.indexByte b.data.toList c.toNat.toUInt8 < 0)
def alL (b : ByteArray) : Nat → Int → List Int
  | 0, _ => []
  | d + 1, c => if barB b c = true then c :: alL b d (c + 1) else alL b d (c + 1)
theorem alL_len (b : ByteArray) : ∀ (d : Nat) (c : Int), (alL b d c).length ≤ d
  | 0, _ => Nat.le_refl _
  | d + 1, c => by
    have := alL_len b d (c + 1)
    rw [alL]
    split
    · simp; omega
    · omega
theorem alL_mem (b : ByteArray) (x : Int) : ∀ (d : Nat) (c : Int), x ∈ alL b d c ↔ (c ≤ x ∧ x < c + d) ∧ barB b x = true
  | 0, c => by simp [alL]; omega
  | d + 1, c => by
    rw [alL]
    by_cases h : barB b c = true
    · rw [if_pos h, List.mem_cons, alL_mem b x d (c + 1)]
      constructor
      · rintro (rfl | ⟨h1, h2⟩)
        · exact ⟨by omega, h⟩
        · exact ⟨by omega, h2⟩
      · rintro ⟨h1, h2⟩
        by_cases e : x = c
        · exact .inl e
        · exact .inr ⟨by omega, h2⟩
    · rw [if_neg h, alL_mem b x d (c + 1)]
      constructor
      · rintro ⟨h1, h2⟩
        exact ⟨by omega, h2⟩
      · rintro ⟨h1, h2⟩
        by_cases e : x = c
        · subst e; exact absurd h2 h
        · exact ⟨by omega, h2⟩
theorem allowed_l0 (p b : ByteArray) (l : List ByteArray) (hi : Int) (hh : hi ≤ 100) : ∀ (d : Nat) (c : Int) (k : Nat) (o : List Int), 0 ≤ c → c + d = hi + 1 → o.length + d ≤ 300 → d < k →
    impl_Scheme_allowed.l0 k o hi c p b l = some (o ++ alL b d c)
  | 0, c, k, o, h0, e, ho, hk => by
    obtain ⟨k, rfl⟩ : ∃ m, k = m + 1 := ⟨k - 1, by omega⟩
    rw [impl_Scheme_allowed.l0, if_neg (show ¬ c ≤ hi by omega), alL, List.append_nil]
  | d + 1, c, k, o, h0, e, ho, hk => by
    obtain ⟨k, rfl⟩ : ∃ m, k = m + 1 := ⟨k - 1, by omega⟩
    rw [impl_Scheme_allowed.l0, if_pos (show c ≤ hi by omega), alL]
    unfold strings_IndexByte.f barB
    simp only [Option.bind_some]
    rw [show (c + 1) % 256 = c + 1 by omega]
    by_cases q : Lib.indexByte b.data.toList c.toNat.toUInt8 < 0
    · rw [if_pos q, if_pos (by omega), if_pos (decide_eq_true q), allowed_l0 p b l hi hh d (c + 1) k (o ++ [c]) (by omega) (by omega) (by simp; omega) (by omega), List.append_assoc]
      rfl
    · rw [if_neg q, if_neg (by simpa using q)]
      exact allowed_l0 p b l hi hh d (c + 1) k o (by omega) (by omega) (by omega) (by omega)
def ltrB (c : Int) : Bool := decide (65 ≤ c) && decide (c ≤ 90)
def okB (p b : ByteArray) (c : Int) (i : Int) : Bool := (if bt p i = 76 then ltrB c else (decide (48 ≤ c) && decide (c ≤ 57))) && barB b c
def fitsL (p b t : ByteArray) : Nat → Nat → Bool
  | 0, _ => true
  | d + 1, i => okB p b (bt t (i : Int)) (i : Int) && fitsL p b t d (i + 1)
theorem allowed8 (p b : ByteArray) (l : List ByteArray) (i : Nat) (hi : i < p.size) (x : Int) (k : Nat) (hk : 200 < k) : ∃ L, impl_Scheme_allowed.f k p b l (i : Int) = some L ∧ L.length ≤ 100 ∧ decide (x ∈ L) = okB p b x (i : Int) := by
  obtain ⟨k, rfl⟩ : ∃ m, k = m + 1 := ⟨k - 1, by omega⟩
  unfold impl_Scheme_allowed.f okB
  simp only [Option.bind_some]
  rw [if_pos (show (0 : Int) ≤ (i : Int) by omega), if_pos (show (i : Int) < (p.size : Int) by omega)]
  by_cases c : bt p (i : Int) = 76
  · rw [if_pos c, if_pos c, impl_Scheme_allowed.j0, allowed_l0 p b l 90 (by omega) 26 65 k [] (by omega) (by omega) (by simp) (by omega)]
    refine ⟨_, rfl, ?_, ?_⟩
    · rw [List.nil_append]; exact Nat.le_trans (alL_len b 26 65) (by decide)
    · rw [List.nil_append, Bool.eq_iff_iff, decide_eq_true_iff, alL_mem]
      simp only [ltrB, Bool.and_eq_true, decide_eq_true_eq]
      constructor
      · rintro ⟨h1, h2⟩; exact ⟨by omega, h2⟩
      · rintro ⟨h1, h2⟩; exact ⟨by omega, h2⟩
  · rw [if_neg c, if_neg c, impl_Scheme_allowed.j0, allowed_l0 p b l 57 (by omega) 10 48 k [] (by omega) (by omega) (by simp) (by omega)]
    refine ⟨_, rfl, ?_, ?_⟩
    · rw [List.nil_append]; exact Nat.le_trans (alL_len b 10 48) (by decide)
    · rw [List.nil_append, Bool.eq_iff_iff, decide_eq_true_iff, alL_mem]
      simp only [Bool.and_eq_true, decide_eq_true_eq]
      constructor
      · rintro ⟨h1, h2⟩; exact ⟨by omega, h2⟩
      · rintro ⟨h1, h2⟩; exact ⟨by omega, h2⟩
def cleanB (t : ByteArray) (l : List ByteArray) : Bool := l.all fun x => !Lib.contains t.data.toList x.data.toList
theorem wIdx_clean (t : ByteArray) : ∀ (l : List ByteArray) (i : Int), (((wIdx t l i).length : Int) == 0) = cleanB t l
  | [], _ => rfl
  | x :: l, i => by
    have ih := wIdx_clean t l (i + 1)
    unfold cleanB at ih ⊢
    rw [wIdx, List.all_cons]
    by_cases c : Lib.contains t.data.toList x.data.toList = true
    · rw [if_pos c, c, List.length_cons]
      simp
      omega
    · rw [if_neg c, ih, Bool.eq_false_iff.mpr c]
      rfl
theorem one_list (t : ByteArray) (i : Nat) (hi : i < t.size) : (t.extract i (i + 1)).data.toList = [(bt t (i : Int)).toNat.toUInt8] := by
  have hl : t.data.toList.length = t.size := Array.length_toList
  have hi' : i < t.data.toList.length := by omega
  rw [ByteArray.data_extract, Array.toList_extract, List.extract, show i + 1 - i = 1 by omega, List.drop_eq_getElem_cons hi', bt_list t i hi']
  simp
theorem fit_one (p b t : ByteArray) (i : Nat) (hi : i < t.size) : okB p b (bt t (i : Int)) (i : Int) = (sgnB (bt t (i : Int)) && ((ltrB (bt t (i : Int)) == (bt p (i : Int) == 76)) && !Lib.contains b.data.toList (t.extract i (i + 1)).data.toList)) := by
  have hc : (!Lib.contains b.data.toList (t.extract i (i + 1)).data.toList) = barB b (bt t (i : Int)) := by
    rw [one_list t i hi]
    unfold Lib.contains barB
    rw [Lib.index_one]
    by_cases q : Lib.indexByte b.data.toList (bt t (i : Int)).toNat.toUInt8 < 0
    · rw [decide_eq_true q, decide_eq_false (by omega)]; rfl
    · rw [decide_eq_false q, decide_eq_true (by omega)]; rfl
  rw [hc]
  unfold okB sgnB ltrB
  generalize bt t (i : Int) = c
  by_cases h : bt p (i : Int) = 76
  · rw [if_pos h, h]
    by_cases h1 : 65 ≤ c <;> by_cases h2 : c ≤ 90 <;> simp [h1, h2]
  · rw [if_neg h, show (bt p (i : Int) == 76) = false from beq_eq_false_iff_ne.mpr h]
    by_cases h1 : 65 ≤ c
    · have h4 : ¬ c ≤ 57 := by omega
      by_cases h2 : c ≤ 90 <;> simp [h1, h2, h4]
    · simp [h1]
theorem spec_fits_l0 (p b t : ByteArray) (hb : b.size ≤ 1048576) (ht : t.size ≤ 1048576) (hpt : t.size ≤ p.size) (l : List ByteArray) : ∀ (d i k : Nat), i + d = t.size → 2 * d + 1048600 < k →
    spec_plFits.l0 k t (i : Int) p b l = some (fitsL p b t d i)
  | 0, i, k, e, hk => by
    obtain ⟨k, rfl⟩ : ∃ m, k = m + 1 := ⟨k - 1, by omega⟩
    rw [spec_plFits.l0, if_neg (show ¬ (i : Int) < (t.size : Int) by omega)]
    rfl
  | d + 1, i, k, e, hk => by
    obtain ⟨k, rfl⟩ : ∃ m, k = m + 2 := ⟨k - 2, by omega⟩
    have hi : i < t.size := by omega
    have hx : (t.extract i (i + 1)).size ≤ 1048576 := by rw [ByteArray.size_extract]; omega
    have ih := spec_fits_l0 p b t hb ht hpt l d (i + 1) k (by omega) (by omega)
    have key : ∀ q : Bool, q = ltrB (bt t (i : Int)) → spec_plFits.j1 (k + 1) t (i : Int) q p b l = some (fitsL p b t (d + 1) i) := by
      rintro q rfl
      rw [spec_plFits.j1, if_pos (show (0 : Int) ≤ (i : Int) by omega), if_pos (show (i : Int) < (t.size : Int) by omega), spec_sign]
      simp only [Option.bind_some]
      rw [fitsL, fit_one p b t i hi]
      by_cases c1 : sgnB (bt t (i : Int)) = true
      · rw [if_pos c1, if_pos (show (i : Int) < (p.size : Int) by omega), c1, Bool.true_and]
        by_cases c2 : (ltrB (bt t (i : Int)) != (bt p (i : Int) == 76)) = true
        · rw [if_pos c2, show (ltrB (bt t (i : Int)) == (bt p (i : Int) == 76)) = false by simpa [bne] using c2]
          rfl
        · rw [if_neg c2, show (ltrB (bt t (i : Int)) == (bt p (i : Int) == 76)) = true by simpa [bne] using c2, wrap_id (x := (i : Int) + 1) (by omega) (by omega), if_pos (show (i : Int) ≤ (i : Int) + 1 by omega), if_pos (show (i : Int) + 1 ≤ (t.size : Int) by omega), show ((i : Int) + 1).toNat = i + 1 by omega, show ((i : Int)).toNat = i by omega, has8 b (t.extract i (i + 1)) hb hx k (by omega)]
          simp only [Option.bind_some]
          by_cases c3 : Lib.contains b.data.toList (t.extract i (i + 1)).data.toList = true
          · rw [if_pos c3, c3]; rfl
          · rw [if_neg c3, Bool.eq_false_iff.mpr c3, show (i : Int) + 1 = ((i + 1 : Nat) : Int) by omega, ih]; rfl
      · rw [if_neg c1, Bool.eq_false_iff.mpr c1]; rfl
    rw [spec_plFits.l0, if_pos (show (i : Int) < (t.size : Int) by omega), if_pos (show (0 : Int) ≤ (i : Int) by omega)]
    by_cases c : bt t (i : Int) ≥ 65
    · rw [if_pos c]
      exact key _ (by unfold ltrB; rw [decide_eq_true (show 65 ≤ bt t (i : Int) from c), Bool.true_and])
    · rw [if_neg c]
      exact key _ (by unfold ltrB; rw [decide_eq_false (show ¬ 65 ≤ bt t (i : Int) from c), Bool.false_and])
theorem spec_clean_l0 (t : ByteArray) (ht : t.size ≤ 1048576) (l : List ByteArray) (hl : l.length ≤ 1048576) (hs : ∀ x ∈ l, x.size ≤ 1048576) : ∀ (d i k : Nat), i + d = l.length → d + 1048590 < k →
    spec_plClean.l0 k t l (l.length : Int) (i : Int) = some (cleanB t (l.drop i))
  | 0, i, k, e, hk => by
    obtain ⟨k, rfl⟩ : ∃ m, k = m + 1 := ⟨k - 1, by omega⟩
    rw [spec_plClean.l0, if_neg (show ¬ (i : Int) < (l.length : Int) by omega), List.drop_of_length_le (by omega)]
    rfl
  | d + 1, i, k, e, hk => by
    obtain ⟨k, rfl⟩ : ∃ m, k = m + 1 := ⟨k - 1, by omega⟩
    have hi : i < l.length := by omega
    rw [spec_plClean.l0, if_pos (show (i : Int) < (l.length : Int) by omega), if_pos (show (0 : Int) ≤ (i : Int) by omega), if_pos (show (i : Int) < (l.length : Int) by omega), rdOf_get l i hi, has8 t l[i] ht (hs _ (List.getElem_mem hi)) k (by omega)]
    simp only [Option.bind_some]
    have ih := spec_clean_l0 t ht l hl hs d (i + 1) k (by omega) (by omega)
    unfold cleanB at ih ⊢
    rw [List.drop_eq_getElem_cons hi, List.all_cons]
    by_cases c : Lib.contains t.data.toList l[i].data.toList = true
    · rw [if_pos c, c]; rfl
    · rw [if_neg c, Bool.eq_false_iff.mpr c, wrap_id (x := (i : Int) + 1) (by omega) (by omega), show (i : Int) + 1 = ((i + 1 : Nat) : Int) by omega, ih]
      rfl
def ipT (p b : ByteArray) (l : List ByteArray) (t : ByteArray) : Bool × Bool := if isSchT p b l = true then (decide (t.size = p.size) && (fitsL p b t t.size 0 && cleanB t l), true) else (false, false)
/-- The sum over d signs from c on: those that are not barred, and whose next text has no word. -/
def sumV (G : ByteArray → Int) (ws : List ByteArray) (b e : ByteArray) : Nat → Int → Int → Int
  | 0, _, acc => acc
  | d + 1, c, acc => if barB b c = true then (if cleanB (e ++ strOfNums [c]) ws = true then sumV G ws b e d (c + 1) (wrap64 (acc + G (e ++ strOfNums [c]))) else sumV G ws b e d (c + 1) acc) else sumV G ws b e d (c + 1) acc
def loP (p : ByteArray) (i : Nat) : Int := if bt p (i : Int) = 76 then 65 else 48
def cntP (p : ByteArray) (i : Nat) : Nat := if bt p (i : Int) = 76 then 26 else 10
/-- How many plates go on with n more signs behind an end. -/
def valP (p b : ByteArray) (ws : List ByteArray) : Nat → ByteArray → Int
  | 0, _ => 1
  | n + 1, e => sumV (fun t => valP p b ws n (stT ws t t.size 0)) ws b e (cntP p (p.size - (n + 1))) (loP p (p.size - (n + 1))) 0
theorem sumS_val (F : ByteArray → Option Int) (Wd : ByteArray → Option (List Int)) (G : ByteArray → Int) (ws : List ByteArray) (b e : ByteArray)
    (hF : ∀ c : Int, 0 ≤ c → c < 256 → cleanB (e ++ strOfNums [c]) ws = true → F (e ++ strOfNums [c]) = some (G (e ++ strOfNums [c])))
    (hW : ∀ c : Int, 0 ≤ c → c < 256 → Wd (e ++ strOfNums [c]) = some (wIdx (e ++ strOfNums [c]) ws 0)) :
    ∀ (d : Nat) (c acc : Int), 0 ≤ c → c + d ≤ 256 → sumS F Wd e (alL b d c) acc = some (sumV G ws b e d c acc)
  | 0, c, acc, _, _ => rfl
  | d + 1, c, acc, h0, h1 => by
    have ih := fun a => sumS_val F Wd G ws b e hF hW d (c + 1) a (by omega) (by omega)
    rw [alL, sumV]
    by_cases hb : barB b c = true
    · rw [if_pos hb, if_pos hb, sumS, hW c h0 (by omega), Option.bind_some]
      have hc := wIdx_clean (e ++ strOfNums [c]) ws 0
      by_cases q : cleanB (e ++ strOfNums [c]) ws = true
      · rw [q] at hc
        have hz := beq_iff_eq.1 hc
        rw [if_pos (show (wIdx (e ++ strOfNums [c]) ws 0).length = 0 by omega), if_pos q, hF c h0 (by omega) q, Option.bind_some]
        exact ih _
      · rw [Bool.eq_false_iff.mpr q] at hc
        have hz := beq_eq_false_iff_ne.1 hc
        rw [if_neg (show ¬ (wIdx (e ++ strOfNums [c]) ws 0).length = 0 by omega), if_neg q]
        exact ih _
    · rw [if_neg hb, if_neg hb]
      exact ih _
theorem cont_at (t u : ByteArray) (i : Nat) (hi : i ≤ t.size) (h : Lib.occAt t.data.toList u.data.toList i = true) : Lib.contains t.data.toList u.data.toList = true := by
  have hl : t.data.toList.length = t.size := Array.length_toList
  unfold Lib.contains
  rcases Lib.index_spec t.data.toList u.data.toList with ⟨_, h2⟩ | ⟨j, h2, _⟩
  · rw [h2 i (by omega)] at h; cases h
  · rw [h2]; exact decide_eq_true (by omega)
theorem ext_list (t : ByteArray) (i : Nat) : (t.extract i t.size).data.toList = t.data.toList.drop i := by
  have hl : t.data.toList.length = t.size := Array.length_toList
  rw [ByteArray.data_extract, Array.toList_extract, List.extract]
  exact List.take_of_length_le (by rw [List.length_drop]; omega)
theorem ext_take (u : ByteArray) (m : Nat) : (u.extract 0 m).data.toList = u.data.toList.take m := by
  rw [ByteArray.data_extract, Array.toList_extract, List.extract]
  simp
theorem hit_pre (t u : ByteArray) (i : Nat) (hi : i < t.size) (hu : Lib.contains t.data.toList u.data.toList = false) : hitW t (i : Int) u = preW t (i : Int) u := by
  have hl : t.data.toList.length = t.size := Array.length_toList
  have hm : u.data.toList.length = u.size := Array.length_toList
  have hld : (t.data.toList.drop i).length = t.size - i := by rw [List.length_drop, hl]
  unfold hitW preW
  rw [Int.toNat_natCast, Lib.toList_data, Lib.toList_data, ext_list, ext_take]
  unfold Lib.hasPrefix
  by_cases c : (t.size : Int) - (i : Int) < (u.size : Int)
  · rw [if_pos c, Bool.eq_iff_iff, decide_eq_true_iff, List.isPrefixOf_iff_prefix, List.prefix_iff_eq_take, hld, show ((t.size : Int) - (i : Int)).toNat = t.size - i by omega]
    exact eq_comm
  · rw [if_neg c]
    refine (Bool.eq_false_iff.mpr fun q => ?_).symm
    rw [List.isPrefixOf_iff_prefix] at q
    have h1 := q.length_le
    have h2 : t.data.toList.drop i = u.data.toList := q.eq_of_length (by omega)
    have h3 := cont_at t u i (by omega) (by unfold Lib.occAt; rw [h2, List.isPrefixOf_iff_prefix]; exact List.prefix_rfl)
    rw [hu] at h3; cases h3
theorem any_hit (ws : List ByteArray) (t : ByteArray) (hc : cleanB t ws = true) (i : Nat) (hi : i < t.size) : ws.any (hitW t (i : Int)) = ws.any (preW t (i : Int)) := by
  unfold cleanB at hc
  induction ws with
  | nil => rfl
  | cons u r ih =>
    rw [List.all_cons, Bool.and_eq_true] at hc
    rw [List.any_cons, List.any_cons, ih hc.2, hit_pre t u i hi (by simpa using hc.1)]
theorem tailT_stT (ws : List ByteArray) (t : ByteArray) (hc : cleanB t ws = true) : ∀ (d i : Nat), i + d = t.size → tailT ws t d (i : Int) = stT ws t d (i : Int)
  | 0, _, _ => rfl
  | d + 1, i, h => by
    have ih := tailT_stT ws t hc d (i + 1) (by omega)
    rw [tailT, stT, any_hit ws t hc i (by omega), show (i : Int) + 1 = ((i + 1 : Nat) : Int) by omega, ih]
theorem hit_big (t u : ByteArray) (i : Nat) (h : i + 4 < t.size) (hu : u.size ≤ 4) : hitW t (i : Int) u = false := by
  unfold hitW
  rw [if_neg (by omega)]
theorem stT_skip (ws : List ByteArray) (t : ByteArray) (hs : ∀ u ∈ ws, u.size ≤ 4) (d : Nat) : ∀ (m i : Nat), i + m + 4 ≤ t.size → stT ws t (d + m) (i : Int) = stT ws t d ((i + m : Nat) : Int)
  | 0, i, _ => rfl
  | m + 1, i, h => by
    have ha : ¬ ws.any (hitW t (i : Int)) = true := fun q => by
      obtain ⟨u, hu, q⟩ := List.any_eq_true.1 q
      rw [hit_big t u i (by omega) (hs u hu)] at q
      cases q
    rw [show d + (m + 1) = (d + m) + 1 by omega, stT, if_neg ha, show (i : Int) + 1 = ((i + 1 : Nat) : Int) by omega, stT_skip ws t hs d m (i + 1) (by omega), show i + 1 + m = i + (m + 1) by omega]
theorem tl_stT (ws : List ByteArray) (t : ByteArray) (hs : ∀ u ∈ ws, u.size ≤ 4) (hc : cleanB t ws = true) : tl ws t = stT ws t t.size 0 := by
  unfold tl
  rw [tailT_stT ws t hc _ _ (by omega)]
  by_cases c : t.size ≤ 4
  · rw [show t.size - 4 = 0 by omega]; rfl
  · have h := stT_skip ws t hs (t.size - (t.size - 4)) (t.size - 4) 0 (by omega)
    rw [show t.size - (t.size - 4) + (t.size - 4) = t.size by omega, Nat.zero_add] at h
    exact h.symm
/-- A state: the empty text, or a proper beginning of a word. -/
def isSt (ws : List ByteArray) (z : ByteArray) : Prop := z = ⟨#[]⟩ ∨ ∃ u ∈ ws, ∃ m : Nat, 0 < m ∧ m < u.size ∧ z = u.extract 0 m
theorem stT_is (ws : List ByteArray) (t : ByteArray) : ∀ (d i : Nat), i + d = t.size → isSt ws (stT ws t d (i : Int))
  | 0, _, _ => .inl rfl
  | d + 1, i, h => by
    rw [stT]
    by_cases q : ws.any (hitW t (i : Int)) = true
    · rw [if_pos q]
      obtain ⟨u, hu, q⟩ := List.any_eq_true.1 q
      unfold hitW at q
      by_cases c : (t.size : Int) - (i : Int) < (u.size : Int)
      · rw [if_pos c, decide_eq_true_iff, Lib.toList_data, Lib.toList_data] at q
        exact .inr ⟨u, hu, ((t.size : Int) - (i : Int)).toNat, by omega, by omega, (ByteArray.ext (Array.toList_inj.1 q)).symm⟩
      · rw [if_neg c] at q; cases q
    · rw [if_neg q, show (i : Int) + 1 = ((i + 1 : Nat) : Int) by omega]
      exact stT_is ws t d (i + 1) (by omega)
theorem isSt_size {ws : List ByteArray} {z : ByteArray} (hs : ∀ u ∈ ws, u.size ≤ 4) (h : isSt ws z) : z.size ≤ 4 := by
  rcases h with rfl | ⟨u, hu, m, _, h2, rfl⟩
  · exact Nat.zero_le _
  · have := hs u hu
    rw [ByteArray.size_extract]; omega
theorem allowed9 (p b : ByteArray) (l : List ByteArray) (i : Nat) (hi : i < p.size) (k : Nat) (hk : 200 < k) : impl_Scheme_allowed.f k p b l (i : Int) = some (alL b (cntP p i) (loP p i)) := by
  obtain ⟨k, rfl⟩ : ∃ m, k = m + 1 := ⟨k - 1, by omega⟩
  unfold impl_Scheme_allowed.f cntP loP
  simp only [Option.bind_some]
  rw [if_pos (show (0 : Int) ≤ (i : Int) by omega), if_pos (show (i : Int) < (p.size : Int) by omega)]
  by_cases c : bt p (i : Int) = 76
  · rw [if_pos c, if_pos c, if_pos c, impl_Scheme_allowed.j0, allowed_l0 p b l 90 (by omega) 26 65 k [] (by omega) (by omega) (by simp) (by omega)]
    rfl
  · rw [if_neg c, if_neg c, if_neg c, impl_Scheme_allowed.j0, allowed_l0 p b l 57 (by omega) 10 48 k [] (by omega) (by omega) (by simp) (by omega)]
    rfl
theorem lo_cnt (p : ByteArray) (i : Nat) : 0 ≤ loP p i ∧ loP p i + cntP p i ≤ 128 ∧ cntP p i ≤ 36 := by
  unfold loP cntP
  by_cases c : bt p (i : Int) = 76
  · rw [if_pos c, if_pos c]; omega
  · rw [if_neg c, if_neg c]; omega
theorem fromE_val (p b : ByteArray) (ws : List ByteArray) (k : Nat) (hk : 2000000 < k) (hwl : ws.length ≤ 1048576) (hws : ∀ u ∈ ws, u.size ≤ 4) : ∀ (n : Nat) (e : ByteArray), n + 1 ≤ p.size → e.size ≤ 4 → fromE k p b ws (n + 1) ((p.size - (n + 1) : Nat) : Int) e = some (valP p b ws (n + 1) e)
  | n, e, hn, he => by
    have hlc := lo_cnt p (p.size - (n + 1))
    have hsz : ∀ c : Int, (e ++ strOfNums [c]).size ≤ 5 := fun c => by
      rw [ByteArray.size_append, son_size]
      simp
      omega
    rw [fromE, allowed9 p b ws (p.size - (n + 1)) (by omega) k (by omega), Option.bind_some, if_pos ⟨Nat.le_trans (alL_len _ _ _) hlc.2.2, fun c hc => by have := ((alL_mem b c _ _).1 hc).1; omega⟩]
    rw [sumS_val _ _ (fun t => valP p b ws n (stT ws t t.size 0)) ws b e (fun c h0 h1 hc => ?_) (fun c h0 h1 => impl_words p b (e ++ strOfNums [c]) (Nat.le_trans (hsz c) (by decide)) ws hwl k (by omega)) _ _ _ (by omega) (by omega)]
    · rfl
    · cases n with
      | zero =>
        rw [if_pos (by omega)]
        rfl
      | succ m =>
        rw [if_neg (by omega), show ((p.size - (m + 1 + 1) : Nat) : Int) + 1 = ((p.size - (m + 1) : Nat) : Int) by omega, fromE_val p b ws k hk hwl hws m _ (by omega) (tl_size ws _), tl_stT ws _ hws hc]
theorem celD_val (k : Nat) (p b : ByteArray) (ws st : List ByteArray) (ways : List Int) (sg s : ByteArray) (i : Nat) (c0 : Int) (G : ByteArray → Int)
    (hsg : ∀ q : Nat, q < sg.size → sg.extract q (q + 1) = strOfNums [c0 + q])
    (hb : ∀ q : Nat, q < sg.size → spec_plHas.f k b (strOfNums [c0 + q]) = some (!barB b (c0 + q)))
    (hc : ∀ q : Nat, q < sg.size → spec_plClean.f k p b ws (s ++ strOfNums [c0 + q]) = some (cleanB (s ++ strOfNums [c0 + q]) ws))
    (hz : ∀ q : Nat, q < sg.size → cleanB (s ++ strOfNums [c0 + q]) ws = true → ∃ z ix, spec_plState.f p b ws (s ++ strOfNums [c0 + q]) = some z ∧ spec_plIndex.f k st z = some ix ∧ (0 ≤ ix ∧ ix < (ways.length : Int)) ∧ rd ways ix = G (s ++ strOfNums [c0 + q])) :
    ∀ (d q : Nat) (nx : List Int), q + d = sg.size → i < nx.length → ∃ nx', celD k p b ws st ways sg s i d q nx = some nx' ∧ nx'.length = nx.length ∧ rd nx' (i : Int) = sumV G ws b s d (c0 + q) (rd nx (i : Int)) ∧ ∀ j : Nat, j ≠ i → rd nx' (j : Int) = rd nx (j : Int)
  | 0, q, nx, _, _ => ⟨nx, rfl, rfl, rfl, fun _ _ => rfl⟩
  | d + 1, q, nx, h, hi => by
    have ih := fun nx' hi' => celD_val k p b ws st ways sg s i c0 G hsg hb hc hz d (q + 1) nx' (by omega) hi'
    rw [show c0 + ((q + 1 : Nat) : Int) = c0 + (q : Int) + 1 by omega] at ih
    have hq : q < sg.size := by omega
    rw [celD, sumV, hsg q hq, hb q hq, Option.bind_some]
    by_cases h1 : barB b (c0 + q) = true
    · rw [if_pos h1, h1, if_neg (by decide), hc q hq, Option.bind_some]
      by_cases h2 : cleanB (s ++ strOfNums [c0 + q]) ws = true
      · obtain ⟨z, ix, e1, e2, e3, e4⟩ := hz q hq h2
        rw [if_pos h2, if_pos h2, e1, Option.bind_some, e2, Option.bind_some, if_pos e3, e4]
        obtain ⟨nx', f1, f2, f3, f4⟩ := ih (nx.set i (wrap64 (rd nx (i : Int) + G (s ++ strOfNums [c0 + q])))) (by rw [List.length_set]; exact hi)
        refine ⟨nx', f1, by rw [f2, List.length_set], ?_, fun j hj => ?_⟩
        · rw [f3]
          congr 1
          simp [rd, hi]
        · rw [f4 j hj]
          have e' : ¬ i = j := fun c => hj c.symm
          simp [rd, List.getD_eq_getElem?_getD, List.getElem?_set, e']
      · rw [if_neg h2, if_neg h2]
        exact ih nx hi
    · rw [if_neg h1, Bool.eq_false_iff.mpr h1, if_pos (by decide)]
      exact ih nx hi
theorem rowD_val (k : Nat) (p b : ByteArray) (ws st : List ByteArray) (ways : List Int) (sg : ByteArray) (c0 : Int) (G : ByteArray → Int)
    (hst : ∀ s ∈ st, s.size ≤ 1000)
    (hsg : ∀ q : Nat, q < sg.size → sg.extract q (q + 1) = strOfNums [c0 + q])
    (hb : ∀ q : Nat, q < sg.size → spec_plHas.f k b (strOfNums [c0 + q]) = some (!barB b (c0 + q)))
    (hc : ∀ s ∈ st, ∀ q : Nat, q < sg.size → spec_plClean.f k p b ws (s ++ strOfNums [c0 + q]) = some (cleanB (s ++ strOfNums [c0 + q]) ws))
    (hz : ∀ s ∈ st, ∀ q : Nat, q < sg.size → cleanB (s ++ strOfNums [c0 + q]) ws = true → ∃ z ix, spec_plState.f p b ws (s ++ strOfNums [c0 + q]) = some z ∧ spec_plIndex.f k st z = some ix ∧ (0 ≤ ix ∧ ix < (ways.length : Int)) ∧ rd ways ix = G (s ++ strOfNums [c0 + q])) :
    ∀ (d i : Nat) (nx : List Int), i + d = st.length → nx.length = st.length → (∀ j : Nat, i ≤ j → j < st.length → rd nx (j : Int) = 0) → ∃ nx', rowD k p b ws st ways sg d i nx = some nx' ∧ nx'.length = st.length ∧ (∀ j : Nat, j < i → rd nx' (j : Int) = rd nx (j : Int)) ∧ ∀ j : Nat, i ≤ j → ∀ h : j < st.length, rd nx' (j : Int) = sumV G ws b st[j] sg.size c0 0
  | 0, i, nx, h, hl, _ => ⟨nx, rfl, hl, fun _ _ => rfl, fun j h1 h2 => by omega⟩
  | d + 1, i, nx, h, hl, h0 => by
    have hi : i < st.length := by omega
    have hm := List.getElem_mem hi
    obtain ⟨nx1, f1, f2, f3, f4⟩ := celD_val k p b ws st ways sg st[i] i c0 G hsg hb (hc _ hm) (hz _ hm) sg.size 0 nx (by omega) (by omega)
    obtain ⟨nx2, g1, g2, g3, g4⟩ := rowD_val k p b ws st ways sg c0 G hst hsg hb hc hz d (i + 1) nx1 (by omega) (by omega) (fun j a1 a2 => by rw [f4 j (by omega)]; exact h0 j (by omega) a2)
    rw [rowD, rdOf_get st i hi, if_pos (hst _ hm), f1, Option.bind_some]
    refine ⟨nx2, g1, g2, fun j hj => by rw [g3 j (by omega), f4 j (by omega)], fun j a1 a2 => ?_⟩
    by_cases e : j = i
    · subst e
      rw [g3 j (by omega), f3, h0 j (Nat.le_refl _) hi]
      simp
    · exact g4 j (by omega) a2
theorem sgn_size (p : ByteArray) (i : Nat) : (sgnT p (i : Int)).size = cntP p i := by
  unfold sgnT cntP
  by_cases c : bt p (i : Int) = 76
  · rw [if_pos c, if_pos c]; rfl
  · rw [if_neg c, if_neg c]; rfl
theorem sgn_let : ∀ q : Nat, q < 26 → ((⟨#[65, 66, 67, 68, 69, 70, 71, 72, 73, 74, 75, 76, 77, 78, 79, 80, 81, 82, 83, 84, 85, 86, 87, 88, 89, 90]⟩ : ByteArray).extract q (q + 1)).data = (strOfNums [65 + (q : Int)]).data := by decide
theorem sgn_dig : ∀ q : Nat, q < 10 → ((⟨#[48, 49, 50, 51, 52, 53, 54, 55, 56, 57]⟩ : ByteArray).extract q (q + 1)).data = (strOfNums [48 + (q : Int)]).data := by decide
theorem sgn_at (p : ByteArray) (i q : Nat) (hq : q < cntP p i) : (sgnT p (i : Int)).extract q (q + 1) = strOfNums [loP p i + q] := by
  unfold cntP at hq
  unfold sgnT loP
  by_cases c : bt p (i : Int) = 76
  · rw [if_pos c] at hq
    rw [if_pos c, if_pos c]; exact ByteArray.ext (sgn_let q hq)
  · rw [if_neg c] at hq
    rw [if_neg c, if_neg c]; exact ByteArray.ext (sgn_dig q hq)
theorem has_bar (b : ByteArray) (c : Int) (hb : b.size ≤ 1048576) (k : Nat) (hk : 1048580 < k) : spec_plHas.f k b (strOfNums [c]) = some (!barB b c) := by
  rw [has8 b (strOfNums [c]) hb (by rw [son_size]; rw [List.length_singleton]; decide) k hk]
  have e : (strOfNums [c]).data.toList = [c.toNat.toUInt8] := by simp [strOfNums]
  rw [e]
  unfold Lib.contains barB
  rw [Lib.index_one]
  by_cases q : Lib.indexByte b.data.toList c.toNat.toUInt8 < 0
  · rw [decide_eq_true q, decide_eq_false (by omega)]; rfl
  · rw [decide_eq_false q, decide_eq_true (by omega)]; rfl
theorem dpD_val (k : Nat) (p b : ByteArray) (ws st : List ByteArray)
    (hst : ∀ s ∈ st, s.size ≤ 1000)
    (hb : ∀ c : Int, spec_plHas.f k b (strOfNums [c]) = some (!barB b c))
    (hc : ∀ s ∈ st, ∀ c : Int, spec_plClean.f k p b ws (s ++ strOfNums [c]) = some (cleanB (s ++ strOfNums [c]) ws))
    (hz : ∀ s ∈ st, ∀ c : Int, 0 ≤ c → c < 128 → cleanB (s ++ strOfNums [c]) ws = true → ∃ ix : Nat, ∃ h : ix < st.length, spec_plState.f p b ws (s ++ strOfNums [c]) = some st[ix] ∧ spec_plIndex.f k st st[ix] = some (ix : Int) ∧ st[ix] = stT ws (s ++ strOfNums [c]) (s ++ strOfNums [c]).size 0) :
    ∀ (a : Nat) (ways : List Int), a ≤ p.size → ways.length = st.length → (∀ (j : Nat) (h : j < st.length), rd ways (j : Int) = valP p b ws (p.size - a) st[j]) → ∃ ways', dpD k p b ws st a ways = some ways' ∧ ways'.length = st.length ∧ ∀ (j : Nat) (h : j < st.length), rd ways' (j : Int) = valP p b ws p.size st[j]
  | 0, ways, _, hl, hv => ⟨ways, rfl, hl, hv⟩
  | a + 1, ways, ha, hl, hv => by
    have hlc := lo_cnt p a
    have hsz := sgn_size p a
    obtain ⟨nx, f1, f2, _, f4⟩ := rowD_val k p b ws st ways (sgnT p (a : Int)) (loP p a) (fun t => valP p b ws (p.size - (a + 1)) (stT ws t t.size 0)) hst (fun q hq => sgn_at p a q (by omega)) (fun q _ => hb _) (fun s hs q _ => hc s hs _)
      (fun s hs q hq hcl => by
        obtain ⟨ix, hix, e1, e2, e3⟩ := hz s hs (loP p a + q) (by omega) (by omega) hcl
        exact ⟨_, _, e1, e2, ⟨by omega, by omega⟩, by rw [hv ix hix, e3]⟩)
      st.length 0 (List.replicate st.length 0) (by omega) (List.length_replicate ..) (fun j _ hj => by simp [rd, hj])
    rw [dpD, f1, Option.bind_some]
    refine dpD_val k p b ws st hst hb hc hz a nx (by omega) f2 (fun j hj => ?_)
    rw [f4 j (Nat.zero_le _) hj, hsz, show p.size - a = (p.size - (a + 1)) + 1 by omega, valP, show p.size - (p.size - (a + 1) + 1) = a by omega]
theorem ba_iff (x z : ByteArray) : x.toList = z.toList ↔ x = z := by
  rw [Lib.toList_data, Lib.toList_data]
  exact ⟨fun h => ByteArray.ext (Array.toList_inj.1 h), fun h => by rw [h]⟩
theorem hasS_l0 (z : ByteArray) (l : List ByteArray) (hl : l.length ≤ 1048576) : ∀ d i k : Nat, i + d = l.length → d < k → ∃ r, spec_l1HasS.l0 k z l (l.length : Int) (i : Int) = some r ∧ (r = true ↔ z ∈ l.drop i)
  | 0, i, k, e, hk => by
    obtain ⟨k, rfl⟩ : ∃ m, k = m + 1 := ⟨k - 1, by omega⟩
    rw [spec_l1HasS.l0, if_neg (show ¬ (i : Int) < (l.length : Int) by omega), List.drop_of_length_le (by omega)]
    exact ⟨false, rfl, by simp⟩
  | d + 1, i, k, e, hk => by
    obtain ⟨k, rfl⟩ : ∃ m, k = m + 1 := ⟨k - 1, by omega⟩
    have hi : i < l.length := by omega
    rw [spec_l1HasS.l0, if_pos (show (i : Int) < (l.length : Int) by omega), if_pos (show (0 : Int) ≤ (i : Int) by omega), if_pos (show (i : Int) < (l.length : Int) by omega), rdOf_get l i hi, List.drop_eq_getElem_cons hi]
    by_cases c : l[i] = z
    · rw [if_pos ((ba_iff _ _).2 c)]
      exact ⟨true, rfl, ⟨fun _ => by rw [c]; exact List.mem_cons_self, fun _ => rfl⟩⟩
    · rw [if_neg (fun q => c ((ba_iff _ _).1 q)), wrap_id (x := (i : Int) + 1) (by omega) (by omega), show (i : Int) + 1 = ((i + 1 : Nat) : Int) by omega]
      obtain ⟨r, h1, h2⟩ := hasS_l0 z l hl d (i + 1) k (by omega) (by omega)
      exact ⟨r, h1, by rw [h2, List.mem_cons]; exact ⟨.inr, fun h => h.resolve_left (fun q => c q.symm)⟩⟩
theorem plIdx_l0 (z : ByteArray) (l : List ByteArray) (hl : l.length ≤ 1048576) : ∀ d i k : Nat, i + d = l.length → d < k → z ∈ l.drop i → ∃ ix : Nat, ∃ h : ix < l.length, spec_plIndex.l0 k z l (l.length : Int) (i : Int) = some (ix : Int) ∧ l[ix] = z
  | 0, i, k, e, hk, hm => by
    rw [List.drop_of_length_le (by omega)] at hm
    cases hm
  | d + 1, i, k, e, hk, hm => by
    obtain ⟨k, rfl⟩ : ∃ m, k = m + 1 := ⟨k - 1, by omega⟩
    have hi : i < l.length := by omega
    rw [List.drop_eq_getElem_cons hi, List.mem_cons] at hm
    rw [spec_plIndex.l0, if_pos (show (i : Int) < (l.length : Int) by omega), if_pos (show (0 : Int) ≤ (i : Int) by omega), if_pos (show (i : Int) < (l.length : Int) by omega), rdOf_get l i hi]
    by_cases c : l[i] = z
    · rw [if_pos ((ba_iff _ _).2 c)]
      exact ⟨i, hi, rfl, c⟩
    · rw [if_neg (fun q => c ((ba_iff _ _).1 q)), wrap_id (x := (i : Int) + 1) (by omega) (by omega), show (i : Int) + 1 = ((i + 1 : Nat) : Int) by omega]
      exact plIdx_l0 z l hl d (i + 1) k (by omega) (by omega) (hm.resolve_left (fun q => c q.symm))
theorem st_l1 (ws : List ByteArray) (hwl : ws.length ≤ 1000) (i : Nat) (u : ByteArray) (hu : u.size ≤ 4) (k : Nat) (hk : 20000 < k) : ∀ (d j : Nat) (out : List ByteArray), (j + d = u.size ∨ (d = 0 ∧ u.size ≤ j)) → 1 ≤ j → j ≤ 5 → out.length + d ≤ 10000 →
    ∃ out', spec_plStates.l1 (k + d + 1) out u (j : Int) ws (ws.length : Int) (i : Int) = spec_plStates.l0 k out' ws (ws.length : Int) (wrap64 ((i : Int) + 1)) ∧ out'.length ≤ out.length + d ∧ (∀ z ∈ out, z ∈ out') ∧ (∀ z ∈ out', z ∈ out ∨ ∃ m : Nat, 0 < m ∧ m < u.size ∧ z = u.extract 0 m) ∧ (∀ m : Nat, j ≤ m → m < u.size → u.extract 0 m ∈ out')
  | 0, j, out, e, h1, h5, hl => by
    rw [spec_plStates.l1, if_neg (show ¬ (j : Int) < (u.size : Int) by omega)]
    exact ⟨out, rfl, by omega, fun z hz => hz, fun z hz => .inl hz, fun m a1 a2 => by omega⟩
  | d + 1, j, out, e, h1, h5, hl => by
    have hj : j < u.size := by omega
    obtain ⟨r, e1, e2⟩ := hasS_l0 (u.extract 0 j) out (by omega) out.length 0 (k + (d + 1)) (by omega) (by omega)
    rw [show ((0 : Nat) : Int) = 0 from rfl] at e1
    rw [List.drop_zero] at e2
    rw [spec_plStates.l1, if_pos (show (j : Int) < (u.size : Int) by omega), if_pos (show (0 : Int) ≤ (j : Int) by omega), if_pos (show (j : Int) ≤ (u.size : Int) by omega), Int.toNat_natCast]
    unfold spec_l1HasS.f
    rw [e1, Option.bind_some, wrap_id (x := (j : Int) + 1) (by omega) (by omega), show (j : Int) + 1 = ((j + 1 : Nat) : Int) by omega, show k + (d + 1) = k + d + 1 by omega]
    by_cases c : r = true
    · rw [if_pos c]
      obtain ⟨o, f1, f2, f3, f4, f5⟩ := st_l1 ws hwl i u hu k hk d (j + 1) out (by omega) (by omega) (by omega) (by omega)
      refine ⟨o, f1, by omega, f3, f4, fun m a1 a2 => ?_⟩
      by_cases em : m = j
      · subst em; exact f3 _ (e2.1 c)
      · exact f5 m (by omega) a2
    · rw [if_neg c, if_pos (by omega)]
      obtain ⟨o, f1, f2, f3, f4, f5⟩ := st_l1 ws hwl i u hu k hk d (j + 1) (out ++ [u.extract 0 j]) (by omega) (by omega) (by omega) (by simp; omega)
      rw [List.length_append, List.length_singleton] at f2
      refine ⟨o, f1, by omega, fun z hz => f3 z (List.mem_append_left _ hz), fun z hz => ?_, fun m a1 a2 => ?_⟩
      · rcases f4 z hz with h | h
        · rcases List.mem_append.1 h with h | h
          · exact .inl h
          · exact .inr ⟨j, by omega, hj, List.mem_singleton.1 h⟩
        · exact .inr h
      · by_cases em : m = j
        · subst em; exact f3 _ (List.mem_append_right _ (List.mem_singleton.2 rfl))
        · exact f5 m (by omega) a2
theorem st_l0 (ws : List ByteArray) (hwl : ws.length ≤ 1000) (hws : ∀ u ∈ ws, u.size ≤ 4) : ∀ (d i k : Nat) (out : List ByteArray), i + d = ws.length → 30000 + 10 * d < k → out.length ≤ 1 + 4 * i → (⟨#[]⟩ : ByteArray) ∈ out → (∀ z ∈ out, isSt ws z) → (∀ a : Nat, ∀ h : a < ws.length, a < i → ∀ m : Nat, 0 < m → m < ws[a].size → ws[a].extract 0 m ∈ out) →
    ∃ st, spec_plStates.l0 k out ws (ws.length : Int) (i : Int) = some st ∧ st.length ≤ 1 + 4 * ws.length ∧ (∀ z ∈ st, isSt ws z) ∧ (∀ z, isSt ws z → z ∈ st)
  | 0, i, k, out, e, hk, hl, h0, h1, h2 => by
    obtain ⟨k, rfl⟩ : ∃ m, k = m + 1 := ⟨k - 1, by omega⟩
    rw [spec_plStates.l0, if_neg (show ¬ (i : Int) < (ws.length : Int) by omega)]
    refine ⟨out, rfl, by omega, h1, fun z hz => ?_⟩
    rcases hz with rfl | ⟨u, hu, m, m0, m1, rfl⟩
    · exact h0
    · obtain ⟨a, ha, rfl⟩ := List.mem_iff_getElem.1 hu
      exact h2 a ha (by omega) m m0 m1
  | d + 1, i, k, out, e, hk, hl, h0, h1, h2 => by
    have hi : i < ws.length := by omega
    have hm := List.getElem_mem hi
    have h4 := hws _ hm
    obtain ⟨k, rfl⟩ : ∃ m, k = m + (ws[i].size - 1) + 1 + 1 := ⟨k - (ws[i].size - 1) - 2, by omega⟩
    obtain ⟨o, f1, f2, f3, f4, f5⟩ := st_l1 ws hwl i ws[i] h4 k (by omega) (ws[i].size - 1) 1 out (by omega) (by omega) (by omega) (by omega)
    rw [spec_plStates.l0, if_pos (show (i : Int) < (ws.length : Int) by omega), if_pos (show (0 : Int) ≤ (i : Int) by omega), if_pos (show (i : Int) < (ws.length : Int) by omega), rdOf_get ws i hi, show (1 : Int) = ((1 : Nat) : Int) from rfl, f1, wrap_id (x := (i : Int) + 1) (by omega) (by omega), show (i : Int) + 1 = ((i + 1 : Nat) : Int) by omega]
    refine st_l0 ws hwl hws d (i + 1) k o (by omega) (by omega) (by omega) (f3 _ h0) (fun z hz => ?_) (fun a ha hai m m0 m1 => ?_)
    · rcases f4 z hz with h | ⟨m, m0, m1, rfl⟩
      · exact h1 z h
      · exact .inr ⟨_, hm, m, m0, m1, rfl⟩
    · by_cases ea : a = i
      · subst ea; exact f5 m m0 m1
      · exact f3 _ (h2 a ha (by omega) m m0 m1)
theorem states9 (p b : ByteArray) (ws : List ByteArray) (hwl : ws.length ≤ 1000) (hws : ∀ u ∈ ws, u.size ≤ 4) (k : Nat) (hk : 50000 < k) : ∃ st, spec_plStates.f k p b ws = some st ∧ st.length ≤ 1 + 4 * ws.length ∧ (∀ z ∈ st, isSt ws z) ∧ (∀ z, isSt ws z → z ∈ st) := by
  unfold spec_plStates.f
  have h := st_l0 ws hwl hws ws.length 0 k [(⟨#[]⟩ : ByteArray)] (by omega) (by omega) (by simp) (List.mem_singleton.2 rfl) (fun z hz => .inl (List.mem_singleton.1 hz)) (fun a _ ha => by omega)
  rw [show ((0 : Nat) : Int) = 0 from rfl] at h
  exact h
/-- All bytes are below 128. -/
def asc (t : ByteArray) : Prop := ∀ x ∈ t.data.toList, x.toNat < 128
theorem asc_bt {t : ByteArray} (h : asc t) (i : Nat) (hi : i < t.size) : bt t (i : Int) < 128 := by
  have hl : t.data.toList.length = t.size := Array.length_toList
  rw [bt_list t i (by omega)]
  have := h _ (List.getElem_mem (show i < t.data.toList.length by omega))
  omega
theorem asc_signs {u : ByteArray} (h : signsB u 1 4 = true) : asc u := by
  have hl : u.data.toList.length = u.size := Array.length_toList
  intro x hx
  obtain ⟨j, hj, rfl⟩ := List.mem_iff_getElem.1 hx
  unfold signsB at h
  simp only [Bool.and_eq_true] at h
  have h3 := allS_bt u u.size 0 h.2 j (by omega) (by omega)
  rw [bt_list u j hj] at h3
  simp only [sgnB, Bool.or_eq_true, Bool.and_eq_true, decide_eq_true_eq] at h3
  omega
theorem asc_ext {u : ByteArray} (h : asc u) (m : Nat) : asc (u.extract 0 m) := by
  intro x hx
  rw [ext_take] at hx
  exact h x (List.mem_of_mem_take hx)
theorem asc_add {s : ByteArray} (h : asc s) (c : Int) (h0 : 0 ≤ c) (h1 : c < 128) : asc (s ++ strOfNums [c]) := by
  intro x hx
  rw [ByteArray.data_append, Array.toList_append] at hx
  rcases List.mem_append.1 hx with hx | hx
  · exact h x hx
  · have e : (strOfNums [c]).data.toList = [c.toNat.toUInt8] := by simp [strOfNums]
    rw [e, List.mem_singleton] at hx
    subst hx
    have h2 : c.toNat < 128 := by omega
    generalize c.toNat = n at h2
    rw [show n.toUInt8.toNat = n % 256 by simp]
    omega
theorem good_parts {p b : ByteArray} {ws : List ByteArray} (h : isSchT p b ws = true) : (1 ≤ p.size ∧ p.size ≤ 8) ∧ b.size ≤ 36 ∧ ws.length ≤ 3 ∧ (∀ u ∈ ws, signsB u 1 4 = true) := by
  unfold isSchT at h
  simp only [Bool.and_eq_true, decide_eq_true_eq, Bool.not_eq_true', List.any_eq_false] at h
  obtain ⟨_, ⟨h1, h2⟩, _, h3, h4, h5⟩ := h
  refine ⟨⟨by omega, by omega⟩, ?_, h4, fun u hu => by simpa using h5 u hu⟩
  unfold signsB at h3
  simp only [Bool.and_eq_true, decide_eq_true_eq] at h3
  omega
theorem sign_size {u : ByteArray} (h : signsB u 1 4 = true) : 1 ≤ u.size ∧ u.size ≤ 4 := by
  unfold signsB at h
  simp only [Bool.and_eq_true, decide_eq_true_eq] at h
  omega
theorem clean_nil (ws : List ByteArray) (h : ∀ u ∈ ws, 1 ≤ u.size) : cleanB (⟨#[]⟩ : ByteArray) ws = true := by
  unfold cleanB
  rw [List.all_eq_true]
  intro u hu
  have h1 := h u hu
  have hl : u.data.toList.length = u.size := Array.length_toList
  have e : u.data.toList.isEmpty = false := by
    cases q : u.data.toList with
    | nil => rw [q] at hl; simp at hl; omega
    | cons _ _ => rfl
  unfold Lib.contains
  have e2 : Lib.index (⟨#[]⟩ : ByteArray).data.toList u.data.toList = -1 := by
    rw [show (⟨#[]⟩ : ByteArray).data.toList = [] from rfl, Lib.index, if_neg (by rw [e]; decide)]
  rw [e2]
  rfl
theorem clean9 (p b t : ByteArray) (ht : t.size ≤ 1048576) (ws : List ByteArray) (hl : ws.length ≤ 1048576) (hs : ∀ x ∈ ws, x.size ≤ 1048576) (k : Nat) (hk : 4000000 < k) : spec_plClean.f k p b ws t = some (cleanB t ws) := by
  unfold spec_plClean.f
  have h := spec_clean_l0 t ht ws hl hs ws.length 0 k (by omega) (by omega)
  rw [show ((0 : Nat) : Int) = 0 from rfl, List.drop_zero] at h
  exact h
theorem index9 (st : List ByteArray) (hl : st.length ≤ 1048576) (z : ByteArray) (hz : z ∈ st) (k : Nat) (hk : 1048580 < k) : ∃ ix : Nat, ∃ h : ix < st.length, spec_plIndex.f k st z = some (ix : Int) ∧ st[ix] = z := by
  unfold spec_plIndex.f
  have h := plIdx_l0 z st hl st.length 0 k (by omega) (by omega) (by rw [List.drop_zero]; exact hz)
  rw [show ((0 : Nat) : Int) = 0 from rfl] at h
  exact h
theorem spec_from (p b : ByteArray) (ws : List ByteArray) (hg : isSchT p b ws = true) (k : Nat) (hk : 8000000 < k) : spec_plFrom.f k p b ws (⟨#[]⟩ : ByteArray) = some (valP p b ws p.size (⟨#[]⟩ : ByteArray)) := by
  obtain ⟨⟨hp1, hp8⟩, hb, hwl, hsg⟩ := good_parts hg
  have hw4 : ∀ u ∈ ws, u.size ≤ 4 := fun u hu => (sign_size (hsg u hu)).2
  have hwM : ∀ u ∈ ws, u.size ≤ 1048576 := fun u hu => Nat.le_trans (hw4 u hu) (by decide)
  have hcn := clean_nil ws (fun u hu => (sign_size (hsg u hu)).1)
  have hfit : spec_plFits.f k p b ws (⟨#[]⟩ : ByteArray) = some true := by
    unfold spec_plFits.f
    rw [if_neg (show ¬ (((⟨#[]⟩ : ByteArray).size : Nat) : Int) > (p.size : Int) from by have : (⟨#[]⟩ : ByteArray).size = 0 := rfl; omega)]
    exact spec_fits_l0 p b (⟨#[]⟩ : ByteArray) (by omega) (Nat.zero_le _) (Nat.zero_le _) ws 0 0 k rfl (by omega)
  obtain ⟨st, e1, e2, e3, e4⟩ := states9 p b ws (by omega) hw4 k (by omega)
  have hstz : ∀ s ∈ st, s.size ≤ 4 := fun s hs => isSt_size hw4 (e3 s hs)
  have hasc : ∀ s ∈ st, asc s := fun s hs => by
    rcases e3 s hs with rfl | ⟨u, hu, m, _, _, rfl⟩
    · intro x hx; cases hx
    · exact asc_ext (asc_signs (hsg u hu)) m
  have hadd : ∀ s ∈ st, ∀ c : Int, (s ++ strOfNums [c]).size ≤ 1048576 := fun s hs c => by
    rw [ByteArray.size_append, son_size]
    have := hstz s hs
    simp
    omega
  obtain ⟨ways, d1, d2, d3⟩ := dpD_val k p b ws st (fun s hs => Nat.le_trans (hstz s hs) (by decide)) (fun c => has_bar b c (by omega) k (by omega))
    (fun s hs c => clean9 p b _ (hadd s hs c) ws (by omega) hwM k (by omega))
    (fun s hs c c0 c1 hcl => by
      obtain ⟨ix, hix, g1, g2⟩ := index9 st (by omega) (stT ws (s ++ strOfNums [c]) (s ++ strOfNums [c]).size 0) (e4 _ (stT_is ws _ _ 0 (by omega))) k (by omega)
      refine ⟨ix, hix, ?_, by rw [g2]; exact g1, g2⟩
      rw [g2]
      unfold spec_plState.f
      rw [if_pos ⟨hadd s hs c, by omega, hwM, fun i hi => asc_bt (asc_add (hasc s hs) c c0 c1) i hi⟩])
    p.size (List.replicate st.length 1) (Nat.le_refl _) (List.length_replicate ..) (fun j hj => by rw [Nat.sub_self, valP]; simp [rd, hj])
  obtain ⟨ix, hix, g1, g2⟩ := index9 st (by omega) (⟨#[]⟩ : ByteArray) (e4 _ (.inl rfl)) k (by omega)
  have hstate : spec_plState.f p b ws (⟨#[]⟩ : ByteArray) = some (⟨#[]⟩ : ByteArray) := by
    unfold spec_plState.f
    rw [if_pos ⟨Nat.zero_le _, by omega, hwM, fun i hi => absurd hi (Nat.not_lt_zero i)⟩]
    rfl
  unfold spec_plFrom.f
  rw [if_pos ⟨rfl, by omega⟩, hfit, Option.bind_some, if_pos rfl, clean9 p b _ (Nat.zero_le _) ws (by omega) hwM k (by omega), hcn, Option.bind_some, if_pos rfl, e1, Option.bind_some, if_pos (by omega), d1, Option.bind_some, hstate, Option.bind_some, g1, Option.bind_some, if_pos ⟨by omega, by omega⟩, d3 ix hix, g2]
def cpT (p b : ByteArray) (l : List ByteArray) : Int × Bool := if isSchT p b l = true then (valP p b l p.size (⟨#[]⟩ : ByteArray), true) else (0, false)
theorem spec_cp (p b : ByteArray) (l : List ByteArray) (hp : p.size ≤ 1048576) (hb : b.size ≤ 1048576) (hl : l.length ≤ 1048576) (hs : ∀ x ∈ l, x.size ≤ 1048576) (k : Nat) (hk : 8000000 < k) : spec_CountPlates.f k p b l = some (cpT p b l) := by
  unfold spec_CountPlates.f cpT
  rw [spec_good8 p b l hp hb hl hs _ (by omega), Option.bind_some]
  by_cases g : isSchT p b l = true
  · rw [if_pos g, if_pos g, spec_from p b l g k hk, Option.bind_some]
  · rw [if_neg g, if_neg g]
theorem impl_cp (p b : ByteArray) (l : List ByteArray) (hp : p.size ≤ 1048576) (hb : b.size ≤ 1048576) (hl : l.length ≤ 1048576) (hs : ∀ x ∈ l, x.size ≤ 1048576) (k : Nat) (hk : 8000000 < k) : impl_CountPlates.f k p b l = some (cpT p b l) := by
  unfold impl_CountPlates.f cpT
  rw [impl_good8 p b l hp hb hl hs, Option.bind_some]
  by_cases g : isSchT p b l = true
  · obtain ⟨⟨hp1, hp8⟩, hb6, hwl, hsg⟩ := good_parts g
    obtain ⟨n, hn⟩ : ∃ n, p.size = n + 1 := ⟨p.size - 1, by omega⟩
    have h := fromE_val p b l k (by omega) (by omega) (fun u hu => (sign_size (hsg u hu)).2) n (⟨#[]⟩ : ByteArray) (by omega) (Nat.zero_le _)
    rw [show p.size - (n + 1) = 0 by omega, show ((0 : Nat) : Int) = 0 from rfl, ← hn] at h
    rw [if_pos g, if_pos g, if_pos ⟨hp8, by omega⟩]
    unfold fromF
    rw [if_neg (by omega), show tl l (⟨#[]⟩ : ByteArray) = (⟨#[]⟩ : ByteArray) from rfl, h, Option.bind_some]
  · rw [if_neg g, if_neg g]
theorem FnExactCountPlates (p b : ByteArray) (l : List ByteArray) (hp : p.size ≤ maxLen) (hb : b.size ≤ maxLen) (hl : l.length ≤ maxLen) (hx : ∀ x ∈ l, x.size ≤ maxLen) : ∃ k, laws_FnExactCountPlates.f k p b l = some true := by
  refine ⟨9000003, ?_⟩
  unfold laws_FnExactCountPlates.f
  obtain ⟨z, h1, h2⟩ := sz8 p b l hp hb hl hx 9000003 (by omega)
  rw [h1]
  simp only [Option.bind_some]
  by_cases c : z < 0
  · rw [if_pos c]
  rw [if_neg c]
  obtain ⟨q1, q2, q3, q4⟩ := h2 c
  rw [to8 p b l q3 _ (by omega)]
  simp only [Option.bind_some]
  rw [spec_cp p b l q1 q2 q3 q4 _ (by omega), impl_cp p b l q1 q2 q3 q4 _ (by omega)]
  simp only [Option.bind_some]
  rw [if_pos trivial, bne_self_eq_false, show (9000003 : Nat) = 9000002 + 1 from rfl, laws_FnExactCountPlates.j0, if_neg (by decide), to8 p b l q3 _ (by omega)]
  simp only [Option.bind_some]
  rw [eq8 p b l q3 _ (by omega)]
  rfl

end Go.Proofs.YtmplmfoacnnieaaDoor.Pure
