/- For all schemes and texts the program's AddWord and the reference's answer alike: the plain law, without conditions. -/
import Derived.Test.YtmplmfoacnnieaaDoorPFnExactAddWordx6
set_option linter.unusedVariables false
set_option linter.unusedSimpArgs false
namespace Go.Proofs.YtmplmfoacnnieaaDoor.Pure
open Go.RowKit Go.Proofs.YtmplmfoacnnieaaDoor.PFnExactAddWord Go.Proofs.YtmplmfoacnnieaaDoorW.PrintWords Go.Proofs.YtmplmfoacnnieaaDoorW.PrintLast Go.Proofs.YtmplmfoacnnieaaDoorW.PrintMore

theorem wrap_id {x : Int} (h0 : -9223372036854775808 ≤ x) (h1 : x < 9223372036854775808) : wrap64 x = x := by
  unfold wrap64
  omega
theorem lit_wf {x : Int} (h : (Lit.int .i64 x).wf = true) : -9223372036854775808 ≤ x ∧ x < 9223372036854775808 := by
  have h2 := h
  simp [Lit.wf, IntKind.min, IntKind.max, IntKind.bits, IntKind.signed] at h2
  omega
theorem wrap_add (x y : Int) : wrap64 (wrap64 x + y) = wrap64 (x + y) := by
  have e : ∀ (m c : Int), ((x + c) % m - c + y + c) % m = (x + y + c) % m := fun m c => by
    have h1 : (x + c) % m - c + y + c = (x + c) % m + y := by generalize (x + c) % m = q; omega
    rw [h1, Int.emod_add_emod, show x + c + y = x + y + c by omega]
  unfold wrap64
  rw [e]
theorem wrap_sub (x y : Int) : wrap64 (wrap64 x - y) = wrap64 (x - y) := by
  rw [Int.sub_eq_add_neg, wrap_add, Int.sub_eq_add_neg]

theorem son_size (l : List Int) : (strOfNums l).size = l.length := by simp [strOfNums, ByteArray.size]
theorem son_nil : (⟨#[]⟩ : ByteArray) = strOfNums [] := rfl
theorem son_append (l m : List Int) : strOfNums l ++ strOfNums m = strOfNums (l ++ m) := by
  apply ByteArray.ext
  simp [strOfNums]
theorem son_extract (l : List Int) (i j : Nat) : (strOfNums l).extract i j = strOfNums ((l.take j).drop i) := by
  apply ByteArray.ext
  rw [ByteArray.data_extract]
  apply Array.ext'
  simp [strOfNums, Array.toList_extract, List.extract, List.map_take, List.map_drop, List.drop_take]
def byts (l : List Int) : Prop := ∀ c ∈ l, 0 ≤ c ∧ c < 256
theorem son_bt (l : List Int) (h : byts l) (i : Nat) (hi : i < l.length) : bt (strOfNums l) i = l[i] := by
  unfold bt
  have h1 : (i : Int).toNat < (strOfNums l).size := by rw [son_size]; simpa using hi
  rw [dif_pos h1]
  have h2 := h l[i] (List.getElem_mem hi)
  have h3 : ((strOfNums l)[(i : Int).toNat]'h1) = UInt8.ofNat (l[i]).toNat := by
    show (strOfNums l).data[(i : Int).toNat] = _
    simp [strOfNums]
  rw [h3]
  simp
  omega
theorem bytesOf_byts (s : ByteArray) : byts (bytesOf s) := by
  intro c hc
  simp only [bytesOf, List.mem_map] at hc
  obtain ⟨b, _, rfl⟩ := hc
  have := b.toNat_lt
  omega
theorem son_bytesOf (s : ByteArray) : strOfNums (bytesOf s) = s := by
  apply ByteArray.ext
  apply Array.ext'
  simp [strOfNums, bytesOf, Function.comp_def]
def digs (l : List Int) : Prop := ∀ c ∈ l, 48 ≤ c ∧ c ≤ 57
theorem digs_byts {l : List Int} (h : digs l) : byts l := fun c hc => by have := h c hc; omega
theorem digs_append {l m : List Int} (h : digs l) (k : digs m) : digs (l ++ m) := fun c hc => by
  rcases List.mem_append.mp hc with hc | hc
  · exact h c hc
  · exact k c hc
theorem digs_one {c : Int} (h : 48 ≤ c ∧ c ≤ 57) : digs [c] := fun x hx => by simp at hx; subst hx; exact h
theorem digs_take {l : List Int} (h : digs l) (n : Nat) : digs (l.take n) := fun c hc => h c (List.mem_of_mem_take hc)
theorem digs_drop {l : List Int} (h : digs l) (n : Nat) : digs (l.drop n) := fun c hc => h c (List.mem_of_mem_drop hc)
def sN : List Int → Int
  | [] => 0
  | c :: l => (c - 48) + sN l
theorem sN_append (l m : List Int) : sN (l ++ m) = sN l + sN m := by
  induction l with
  | nil => simp [sN]
  | cons c l ih => simp [sN, ih]; omega
theorem sN_range (l : List Int) (h : digs l) : 0 ≤ sN l ∧ sN l ≤ 9 * l.length := by
  induction l with
  | nil => simp [sN]
  | cons c l ih =>
    have h1 := h c (by simp)
    have h2 := ih (fun x hx => h x (by simp [hx]))
    simp [sN]; omega

theorem loop_len (s : ByteArray) (i : Nat) (r : List UInt8) : r.length ≤ (ByteArray.toList.loop s i r).length := by
  fun_induction ByteArray.toList.loop s i r with
  | case1 i r h ih => simp only [List.length_cons] at ih; omega
  | case2 i r h => simp
theorem toList_ne (s : ByteArray) (h : 0 < s.size) : ¬ (s.toList = ([] : List UInt8)) := by
  intro e
  unfold ByteArray.toList ByteArray.toList.loop at e
  rw [if_pos h] at e
  have := loop_len s (0 + 1) [s.get! 0]
  rw [e] at this
  simp at this
theorem toList_nil {s : ByteArray} (h : s.size = 0) : s.toList = ([] : List UInt8) := by
  unfold ByteArray.toList ByteArray.toList.loop
  rw [if_neg (by omega)]
  rfl
theorem toList_iff (s : ByteArray) : s.toList = ([] : List UInt8) ↔ s.size = 0 :=
  ⟨fun h => Decidable.byContradiction fun q => toList_ne s (by omega) h, fun h => toList_nil h⟩

theorem allS_bt (s : ByteArray) : ∀ (d i : Nat), allS s d i = true → ∀ j : Nat, i ≤ j → j < i + d → sgnB (bt s j) = true
  | 0, i, _, j, h1, h2 => by omega
  | d + 1, i, h, j, h1, h2 => by
    simp only [allS, Bool.and_eq_true] at h
    by_cases e : j = i
    · subst e; exact h.1
    · exact allS_bt s d (i + 1) h.2 j (by omega) (by omega)
theorem spec_sign (c : Int) : spec_plSign.f c = some (sgnB c) := by
  unfold spec_plSign.f sgnB
  by_cases h1 : c ≥ 65
  · have a1 : 65 ≤ c := h1
    rw [if_pos h1]
    by_cases h2 : c ≤ 90
    · rw [if_pos h2]; simp [a1, h2]
    · have a2 : ¬ c ≤ 57 := by omega
      rw [if_neg h2, if_pos (by omega)]; simp [h2, a2]
  · have a1 : ¬ 65 ≤ c := h1
    rw [if_neg h1]
    by_cases h3 : c ≥ 48
    · have a3 : 48 ≤ c := h3
      rw [if_pos h3]; simp [a1, a3]
    · have a3 : ¬ 48 ≤ c := h3
      rw [if_neg h3]; simp [a1, a3]
theorem spec_signs_l0 (s : ByteArray) (hn : s.size ≤ 1048576) : ∀ (d i k : Nat), i + d = s.size → d < k → spec_plSigns.l0 k s i = some (allS s d i)
  | 0, i, k, h, hk => by
    obtain ⟨k, rfl⟩ : ∃ m, k = m + 1 := ⟨k - 1, by omega⟩
    simp only [spec_plSigns.l0, allS]
    rw [if_neg (by omega)]
  | d + 1, i, k, h, hk => by
    obtain ⟨k, rfl⟩ : ∃ m, k = m + 1 := ⟨k - 1, by omega⟩
    simp only [spec_plSigns.l0, allS]
    rw [if_pos (by omega), if_pos (by omega), spec_sign]
    simp only [Option.bind_some]
    by_cases c : sgnB (bt s i) = true
    · rw [if_pos c, c, Bool.true_and, wrap_id (by omega) (by omega)]
      exact spec_signs_l0 s hn d (i + 1) k (by omega) (by omega)
    · rw [if_neg c]
      simp only [Bool.not_eq_true] at c
      rw [c]; rfl
theorem spec_signs (s : ByteArray) (lo hi : Int) (hn : s.size ≤ 1048576) (k : Nat) (hk : s.size < k) : spec_plSigns.f k s lo hi = some (signsB s lo hi) := by
  unfold spec_plSigns.f spec_l1In.f signsB
  by_cases h1 : (s.size : Int) ≥ lo
  · rw [if_pos h1]; simp only [Option.bind_some]
    by_cases h2 : (s.size : Int) ≤ hi
    · rw [if_pos (by simpa using h2)]
      have := spec_signs_l0 s hn s.size 0 k (by omega) hk
      rw [show ((0 : Nat) : Int) = 0 from rfl] at this
      rw [this]
      simp [h1, h2]
    · rw [if_neg (by simpa using h2)]
      simp [h2]
  · rw [if_neg h1]; simp only [Option.bind_some]
    rw [if_neg (by simp)]
    simp [h1]

theorem rdOf_get (l : List ByteArray) (i : Nat) (h : i < l.length) : rdOf ByteArray.empty l (i : Int) = l[i] := by
  unfold rdOf
  simp [h]
theorem in8 (a lo hi : Int) : spec_l1In.f a lo hi = some (decide (lo ≤ a) && decide (a ≤ hi)) := by
  unfold spec_l1In.f
  by_cases h1 : a ≥ lo
  · rw [if_pos h1]; simp; omega
  · rw [if_neg h1]; simp; omega
theorem within8 (a lo hi : Int) : impl_within.f a lo hi = some (decide (lo ≤ a) && decide (a ≤ hi)) := by
  unfold impl_within.f
  by_cases h1 : lo ≤ a
  · rw [if_pos h1]; simp [h1]
  · rw [if_neg h1]; simp; omega
theorem bt_list (p : ByteArray) (i : Nat) (h : i < p.data.toList.length) : bt p (i : Int) = ((p.data.toList[i]).toNat : Int) := by
  unfold bt
  have hd : p.data.toList.length = p.data.size := Array.length_toList
  have h1 : (i : Int).toNat < p.size := by
    show (i : Int).toNat < p.data.size
    omega
  rw [dif_pos h1]
  show ((p.data[i]'(by simpa using h)).toNat : Int) = _
  simp
def allLD (p : ByteArray) : Nat → Nat → Bool
  | 0, _ => true
  | d + 1, i => (decide (bt p i = 76) || decide (bt p i = 68)) && allLD p d (i + 1)
theorem allLD_list (p : ByteArray) : ∀ d i, i + d = p.data.toList.length → allLD p d i = (p.data.toList.drop i).all fun b => [76, 68].contains b
  | 0, i, h => by rw [List.drop_of_length_le (by omega)]; rfl
  | d + 1, i, h => by
    have hi : i < p.data.toList.length := by omega
    rw [allLD, allLD_list p d (i + 1) (by omega), List.drop_eq_getElem_cons hi, List.all_cons, bt_list p i hi]
    congr 1
    generalize p.data.toList[i] = c
    have e1 : ((c.toNat : Int) = 76) ↔ c = 76 := by
      constructor
      · intro q; apply UInt8.toNat_inj.mp; show c.toNat = 76; omega
      · rintro rfl; rfl
    have e2 : ((c.toNat : Int) = 68) ↔ c = 68 := by
      constructor
      · intro q; apply UInt8.toNat_inj.mp; show c.toNat = 68; omega
      · rintro rfl; rfl
    simp [e1, e2, Bool.decide_or]
theorem dw_nil (q : UInt8 → Bool) : ∀ l : List UInt8, l.dropWhile q = [] ↔ ∀ b ∈ l, q b = true
  | [] => by simp
  | a :: l => by
    rw [List.dropWhile_cons]
    by_cases c : q a = true
    · rw [if_pos c, dw_nil q l]; simp [c]
    · rw [if_neg c]; simp [c]
theorem trimS_nil (l cs : List UInt8) : Lib.trimS l cs = [] ↔ ∀ b ∈ l, cs.contains b = true := by
  unfold Lib.trimS Lib.trimLeftS Lib.trimRightS
  constructor
  · intro h
    rw [dw_nil] at h
    have h0 : l.reverse.dropWhile (cs.contains ·) = [] := by
      cases hq : l.reverse.dropWhile (cs.contains ·) with
      | nil => rfl
      | cons a r =>
        have h1 := List.head?_dropWhile_not (cs.contains ·) l.reverse
        rw [hq] at h1
        simp only [List.head?_cons] at h1
        have h2 := h a (by rw [hq]; simp)
        simp_all
    rw [dw_nil] at h0
    intro b hb
    exact h0 b (by simpa using hb)
  · intro h
    have h0 : l.reverse.dropWhile (cs.contains ·) = [] := by
      rw [dw_nil]
      intro b hb
      exact h b (by simpa using hb)
    rw [h0]
    rfl
theorem trim8 (p : ByteArray) : trimT p = allLD p p.size 0 := by
  have hsz : p.size = p.data.toList.length := Array.length_toList.symm
  rw [allLD_list p p.size 0 (by omega), List.drop_zero]
  unfold trimT
  have h1 : (trimZ p).toList = ([] : List UInt8) ↔ Lib.trimS p.data.toList [76, 68] = [] := by
    rw [toList_iff]
    unfold trimZ
    show (Lib.trimS p.data.toList [76, 68]).toArray.size = 0 ↔ _
    rw [List.size_toArray, List.length_eq_zero_iff]
  rw [trimS_nil] at h1
  rw [Bool.eq_iff_iff, beq_iff_eq, h1, List.all_eq_true]
theorem good_l2 (l : List ByteArray) (hl : l.length ≤ 1048576) (hs : ∀ x ∈ l, x.size ≤ 1048576) : ∀ d i k : Nat, i + d = l.length → d + 1048580 < k →
    spec_plGood.l2 k l (l.length : Int) (i : Int) = some ((l.drop i).all fun x => signsB x 1 4)
  | 0, i, k, e, hk => by
    obtain ⟨k, rfl⟩ : ∃ m, k = m + 1 := ⟨k - 1, by omega⟩
    rw [spec_plGood.l2, if_neg (show ¬ (i : Int) < (l.length : Int) by omega), List.drop_of_length_le (by omega)]
    rfl
  | d + 1, i, k, e, hk => by
    obtain ⟨k, rfl⟩ : ∃ m, k = m + 1 := ⟨k - 1, by omega⟩
    have hi : i < l.length := by omega
    rw [spec_plGood.l2, if_pos (show (i : Int) < (l.length : Int) by omega), if_pos (show (0 : Int) ≤ (i : Int) by omega), if_pos (show (i : Int) < (l.length : Int) by omega), rdOf_get l i hi, spec_signs l[i] 1 4 (hs _ (List.getElem_mem hi)) k (by have := hs _ (List.getElem_mem hi); omega)]
    simp only [Option.bind_some]
    rw [List.drop_eq_getElem_cons hi, List.all_cons]
    by_cases c : signsB l[i] 1 4 = true
    · rw [if_pos c, c, Bool.true_and, wrap_id (x := (i : Int) + 1) (by omega) (by omega)]
      exact good_l2 l hl hs d (i + 1) k (by omega) (by omega)
    · rw [if_neg c, Bool.eq_false_iff.mpr c]; rfl
theorem good_l1 (p b : ByteArray) (l : List ByteArray) (hb : b.size ≤ 1048576) (hl : l.length ≤ 1048576) (hs : ∀ x ∈ l, x.size ≤ 1048576) : ∀ d i k : Nat, 1 ≤ i → (i + d = b.size ∨ (d = 0 ∧ b.size ≤ i)) → d + l.length + 1048590 < k →
    spec_plGood.l1 k (i : Int) p b l = some (risesL d b (i : Int) && l.all fun x => signsB x 1 4)
  | 0, i, k, h1, e, hk => by
    obtain ⟨k, rfl⟩ : ∃ m, k = m + 1 := ⟨k - 1, by omega⟩
    have := good_l2 l hl hs l.length 0 k (by omega) (by omega)
    rw [List.drop_zero] at this
    rw [spec_plGood.l1, if_neg (show ¬ (i : Int) < (b.size : Int) by omega), risesL, Bool.true_and]
    exact this
  | d + 1, i, k, h1, e, hk => by
    obtain ⟨k, rfl⟩ : ∃ m, k = m + 1 := ⟨k - 1, by omega⟩
    rw [spec_plGood.l1, if_pos (show (i : Int) < (b.size : Int) by omega), wrap_id (x := (i : Int) - 1) (by omega) (by omega), if_pos (show (0 : Int) ≤ (i : Int) - 1 by omega), if_pos (show (i : Int) - 1 < (b.size : Int) by omega), if_pos (show (0 : Int) ≤ (i : Int) by omega), risesL]
    by_cases c : bt b (i : Int) ≤ bt b ((i : Int) - 1)
    · rw [if_pos c, if_pos c]; rfl
    · rw [if_neg c, if_neg c, wrap_id (x := (i : Int) + 1) (by omega) (by omega), show (i : Int) + 1 = ((i + 1 : Nat) : Int) by omega]
      exact good_l1 p b l hb hl hs d (i + 1) k (by omega) (by omega) (by omega)
theorem good_l0 (p b : ByteArray) (l : List ByteArray) (hp : p.size ≤ 1048576) (hb : b.size ≤ 1048576) (hl : l.length ≤ 1048576) (hs : ∀ x ∈ l, x.size ≤ 1048576) : ∀ d i k : Nat, i + d = p.size → d + 5000000 < k →
    spec_plGood.l0 k (i : Int) p b l = some (allLD p d i && (risesL (b.size - 1) b 1 && l.all fun x => signsB x 1 4))
  | 0, i, k, e, hk => by
    obtain ⟨k, rfl⟩ : ∃ m, k = m + 1 := ⟨k - 1, by omega⟩
    rw [spec_plGood.l0, if_neg (show ¬ (i : Int) < (p.size : Int) by omega), allLD, Bool.true_and]
    exact good_l1 p b l hb hl hs (b.size - 1) 1 k (by omega) (by omega) (by omega)
  | d + 1, i, k, e, hk => by
    obtain ⟨k, rfl⟩ : ∃ m, k = m + 1 := ⟨k - 1, by omega⟩
    have ih := good_l0 p b l hp hb hl hs d (i + 1) k (by omega) (by omega)
    rw [spec_plGood.l0, if_pos (show (i : Int) < (p.size : Int) by omega), if_pos (show (0 : Int) ≤ (i : Int) by omega), wrap_id (x := (i : Int) + 1) (by omega) (by omega), show (i : Int) + 1 = ((i + 1 : Nat) : Int) by omega, allLD]
    by_cases c : bt p (i : Int) = 76
    · rw [if_pos c, ih]; simp [c]
    · rw [if_neg c]
      by_cases c2 : bt p (i : Int) = 68
      · rw [if_pos c2, ih]; simp [c2]
      · rw [if_neg c2]; simp [c, c2]
theorem spec_good8 (p b : ByteArray) (l : List ByteArray) (hp : p.size ≤ 1048576) (hb : b.size ≤ 1048576) (hl : l.length ≤ 1048576) (hs : ∀ x ∈ l, x.size ≤ 1048576) (k : Nat) (hk : 7000000 < k) : spec_plGood.f k p b l = some (isSchT p b l) := by
  have hn : (l.any fun x => !signsB x 1 4) = !(l.all fun x => signsB x 1 4) := by
    induction l with
    | nil => rfl
    | cons a l ih => rw [List.any_cons, List.all_cons, ih (by simp at hl; omega) (fun x hx => hs x (List.mem_cons_of_mem _ hx)), Bool.not_and]
  obtain ⟨k, rfl⟩ : ∃ m, k = m + 1 := ⟨k - 1, by omega⟩
  have h0 := good_l0 p b l hp hb hl hs p.size 0 k (by omega) (by omega)
  rw [show ((0 : Nat) : Int) = 0 from rfl] at h0
  unfold spec_plGood.f isSchT
  rw [in8, spec_signs b 0 36 hb _ (by omega), hn, Bool.not_not, trim8]
  simp only [Option.bind_some, spec_plGood.j0]
  rw [h0]
  by_cases c1 : (decide (1 ≤ (p.size : Int)) && decide ((p.size : Int) ≤ 8)) = true
  · rw [if_pos c1, c1]
    by_cases c2 : signsB b 0 36 = true
    · rw [if_pos c2, c2]
      by_cases c3 : l.length ≤ 3
      · rw [if_neg (by simp; omega), decide_eq_true c3]
        simp only [Bool.true_and, Bool.and_assoc, Bool.and_true]
        congr 1
        cases allLD p p.size 0 <;> cases risesL (b.size - 1) b 1 <;> rfl
      · rw [if_pos (by simp; omega), decide_eq_false c3]
        simp
    · rw [if_neg c2, if_pos trivial, Bool.eq_false_iff.mpr c2]
      simp
  · rw [if_neg c1, if_pos trivial, Bool.eq_false_iff.mpr c1]
    simp
/-! how large it is, its copy, and whether two are alike -/
theorem sz_l0 (l : List ByteArray) (hl : l.length ≤ 1048576) (hx : ∀ x ∈ l, x.size ≤ 9223372036854775807) : ∀ (d i : Nat) (a : Int) (k : Nat), i + d = l.length → 0 ≤ a → a ≤ 1048576 → d < k →
    ∃ t, laws_szStringS.l0 k l a (i : Int) = some t ∧ (0 ≤ t → ∀ x ∈ l.drop i, x.size ≤ 1048576)
  | 0, i, a, k, e, h0, h1, hk => by
    obtain ⟨k, rfl⟩ : ∃ m, k = m + 1 := ⟨k - 1, by omega⟩
    rw [laws_szStringS.l0, if_neg (show ¬ (i : Int) < (l.length : Int) by omega)]
    exact ⟨a, rfl, fun _ x hx => by rw [List.drop_of_length_le (by omega)] at hx; simp at hx⟩
  | d + 1, i, a, k, e, h0, h1, hk => by
    obtain ⟨k, rfl⟩ : ∃ m, k = m + 1 := ⟨k - 1, by omega⟩
    have hi : i < l.length := by omega
    have hxi := hx l[i] (List.getElem_mem hi)
    rw [laws_szStringS.l0, if_pos (show (i : Int) < (l.length : Int) by omega), if_pos (show (0 : Int) ≤ (i : Int) by omega), rdOf_get l i hi, wrap_id (x := a - (l[i].size : Int)) (by omega) (by omega), wrap_id (x := (i : Int) + 1) (by omega) (by omega), show (i : Int) + 1 = ((i + 1 : Nat) : Int) by omega]
    by_cases c : a - (l[i].size : Int) < 0
    · rw [if_pos c]; exact ⟨-1, rfl, fun h => absurd h (by omega)⟩
    · rw [if_neg c]
      obtain ⟨t, h2, h3⟩ := sz_l0 l hl hx d (i + 1) (a - (l[i].size : Int)) k (by omega) (by omega) (by omega) (by omega)
      refine ⟨t, h2, fun ht x hx2 => ?_⟩
      rw [List.drop_eq_getElem_cons hi] at hx2
      rcases List.mem_cons.mp hx2 with rfl | hx2
      · omega
      · exact h3 ht x hx2
theorem sz8 (p b : ByteArray) (l : List ByteArray) (hp : p.size ≤ maxLen) (hb : b.size ≤ maxLen) (hl : l.length ≤ maxLen) (hx : ∀ x ∈ l, x.size ≤ maxLen) (k : Nat) (hk : 1048580 < k) :
    ∃ t, laws_szScheme.f k p b l 1048576 = some t ∧ (¬ t < 0 → p.size ≤ 1048576 ∧ b.size ≤ 1048576 ∧ l.length ≤ 1048576 ∧ ∀ x ∈ l, x.size ≤ 1048576) := by
  have hm : maxLen = 9223372036854775807 := rfl
  rw [hm] at hp hb hl
  unfold laws_szScheme.f
  rw [wrap_id (x := 1048576 - (p.size : Int)) (by omega) (by omega)]
  by_cases c1 : (1048576 : Int) - (p.size : Int) < 0
  · rw [if_pos c1]; exact ⟨-1, rfl, fun h => absurd (show (-1 : Int) < 0 by decide) h⟩
  rw [if_neg c1, wrap_id (x := 1048576 - (p.size : Int) - (b.size : Int)) (by omega) (by omega)]
  by_cases c2 : (1048576 : Int) - (p.size : Int) - (b.size : Int) < 0
  · rw [if_pos c2]; exact ⟨-1, rfl, fun h => absurd (show (-1 : Int) < 0 by decide) h⟩
  rw [if_neg c2]
  unfold laws_szStringS.f
  rw [wrap_id (x := 1048576 - (p.size : Int) - (b.size : Int) - (l.length : Int)) (by omega) (by omega)]
  by_cases c3 : (1048576 : Int) - (p.size : Int) - (b.size : Int) - (l.length : Int) < 0
  · rw [if_pos c3]; exact ⟨-1, rfl, fun h => absurd (show (-1 : Int) < 0 by decide) h⟩
  rw [if_neg c3]
  obtain ⟨t, h2, h3⟩ := sz_l0 l (by omega) (fun x h => by rw [← hm]; exact hx x h) l.length 0 (1048576 - (p.size : Int) - (b.size : Int) - (l.length : Int)) k (by omega) (by omega) (by omega) (by omega)
  rw [show ((0 : Nat) : Int) = 0 from rfl] at h2
  rw [h2]
  simp only [Option.bind_some]
  rw [List.drop_zero] at h3
  by_cases c4 : t < 0
  · rw [if_pos c4]; exact ⟨-1, rfl, fun h => absurd (show (-1 : Int) < 0 by decide) h⟩
  · rw [if_neg c4]; exact ⟨t, rfl, fun _ => ⟨by omega, by omega, by omega, h3 (by omega)⟩⟩
theorem to_l0 (l : List ByteArray) (hl : l.length ≤ 1048576) : ∀ (d i k : Nat) (o : List ByteArray), i + d = l.length → o.length = l.length → o.take i = l.take i → d < k →
    laws_toStringS.l0 k l o (i : Int) = some l
  | 0, i, k, o, e, ho, ht, hk => by
    obtain ⟨k, rfl⟩ : ∃ m, k = m + 1 := ⟨k - 1, by omega⟩
    rw [laws_toStringS.l0, if_neg (show ¬ (i : Int) < (l.length : Int) by omega)]
    rw [List.take_of_length_le (by omega), List.take_of_length_le (by omega)] at ht
    rw [ht]
  | d + 1, i, k, o, e, ho, ht, hk => by
    obtain ⟨k, rfl⟩ : ∃ m, k = m + 1 := ⟨k - 1, by omega⟩
    have hi : i < l.length := by omega
    rw [laws_toStringS.l0, if_pos (show (i : Int) < (l.length : Int) by omega), if_pos (show (0 : Int) ≤ (i : Int) by omega), if_pos (show (i : Int) < (o.length : Int) by omega), rdOf_get l i hi, show ((i : Int)).toNat = i by omega, wrap_id (x := (i : Int) + 1) (by omega) (by omega), show (i : Int) + 1 = ((i + 1 : Nat) : Int) by omega]
    refine to_l0 l hl d (i + 1) k _ (by omega) (by simpa using ho) ?_ (by omega)
    rw [List.take_succ_eq_append_getElem (by simpa using (by omega : i < o.length)), List.take_succ_eq_append_getElem hi, List.take_set_of_le (Nat.le_refl i), ht]
    simp
theorem to8 (p b : ByteArray) (l : List ByteArray) (hl : l.length ≤ 1048576) (k : Nat) (hk : 1048580 < k) : laws_toScheme.f k p b l = some (p, b, l) := by
  unfold laws_toScheme.f laws_toStringS.f
  have h := to_l0 l hl l.length 0 k (List.replicate l.length (⟨#[]⟩ : ByteArray)) (by omega) (by simp) (by simp) (by omega)
  rw [show ((0 : Nat) : Int) = 0 from rfl] at h
  rw [if_pos (show (0 : Int) ≤ (l.length : Int) by omega), show ((l.length : Int)).toNat = l.length by omega, if_pos (by omega), h]
  rfl
theorem eqS_l0 (l : List ByteArray) (hl : l.length ≤ 1048576) : ∀ d i k : Nat, i + d = l.length → d < k → laws_eqStringS.l0 k l l (i : Int) = some true
  | 0, i, k, e, hk => by
    obtain ⟨k, rfl⟩ : ∃ m, k = m + 1 := ⟨k - 1, by omega⟩
    rw [laws_eqStringS.l0, if_neg (show ¬ (i : Int) < (l.length : Int) by omega)]
  | d + 1, i, k, e, hk => by
    obtain ⟨k, rfl⟩ : ∃ m, k = m + 1 := ⟨k - 1, by omega⟩
    rw [laws_eqStringS.l0, if_pos (show (i : Int) < (l.length : Int) by omega), if_pos (show (0 : Int) ≤ (i : Int) by omega), if_pos (show (i : Int) < (l.length : Int) by omega), if_pos rfl, wrap_id (x := (i : Int) + 1) (by omega) (by omega), show (i : Int) + 1 = ((i + 1 : Nat) : Int) by omega]
    exact eqS_l0 l hl d (i + 1) k (by omega) (by omega)
theorem eq8 (p b : ByteArray) (l : List ByteArray) (hl : l.length ≤ 1048576) (k : Nat) (hk : 1048580 < k) : laws_eqScheme.f k p b l p b l = some true := by
  unfold laws_eqScheme.f laws_eqStringS.f
  have h := eqS_l0 l hl l.length 0 k (by omega) (by omega)
  rw [show ((0 : Nat) : Int) = 0 from rfl] at h
  rw [if_pos rfl, if_pos rfl, if_pos rfl, h]
  rfl
theorem small8 {p b : ByteArray} {l : List ByteArray} (hp : p.size ≤ 1048576) (hb : b.size ≤ 1048576) (hl : l.length ≤ 1048576) (hs : ∀ x ∈ l, x.size ≤ 1048576) : smallS p b l = true := by
  simp only [smallS, Bool.and_eq_true, decide_eq_true_eq, List.all_eq_true]
  exact ⟨⟨⟨hp, hb⟩, hl⟩, hs⟩
theorem impl_good8 (p b : ByteArray) (l : List ByteArray) (hp : p.size ≤ 1048576) (hb : b.size ≤ 1048576) (hl : l.length ≤ 1048576) (hs : ∀ x ∈ l, x.size ≤ 1048576) : impl_IsScheme.f p b l = some (isSchT p b l) := by
  unfold impl_IsScheme.f
  rw [if_pos (small8 hp hb hl hs)]

def upL : Nat → Int → List Int
  | 0, _ => []
  | n + 1, s => s :: upL n (s + 1)
theorem upL_len : ∀ (n : Nat) (s : Int), (upL n s).length = n
  | 0, _ => rfl
  | n + 1, s => by simp [upL, upL_len n]
theorem eqStr_l0 (l : List ByteArray) (hl : l.length ≤ 1048576) : ∀ (d i k : Nat), i + d = l.length → d < k → laws_eqStringS.l0 k l l i = some true
  | 0, i, k, e, hk => by
    obtain ⟨k, rfl⟩ : ∃ m, k = m + 1 := ⟨k - 1, by omega⟩
    rw [laws_eqStringS.l0, if_neg (show ¬ (i : Int) < (l.length : Int) by omega)]
  | d + 1, i, k, e, hk => by
    obtain ⟨k, rfl⟩ : ∃ m, k = m + 1 := ⟨k - 1, by omega⟩
    have q : (i : Int) < (l.length : Int) := by omega
    have w1 : wrap64 ((i : Int) + 1) = ((i + 1 : Nat) : Int) := by rw [wrap_id (by omega) (by omega)]; omega
    rw [laws_eqStringS.l0, if_pos q, if_pos (show (0 : Int) ≤ (i : Int) by omega), if_pos q, if_pos rfl, w1]
    exact eqStr_l0 l hl d (i + 1) k (by omega) (by omega)
theorem eqStr_self (l : List ByteArray) (hl : l.length ≤ 1048576) (k : Nat) (hk : l.length < k) : laws_eqStringS.f k l l = some true := by
  unfold laws_eqStringS.f
  rw [if_pos rfl]
  exact eqStr_l0 l hl l.length 0 k (by omega) hk
theorem mkT_l0 : ∀ (d k : Nat) (x : Int) (s : ByteArray), 0 ≤ x → x ≤ 4000000 → x < 10 ^ d → d ≤ 9 → s.size + d ≤ 1000 → d < k → ∃ t, laws_markText.l0 k x s = some t
  | 0, k, x, s, h0, hx, h1, h9, hs, hk => by
    obtain ⟨k, rfl⟩ : ∃ m, k = m + 1 := ⟨k - 1, by omega⟩
    rw [laws_markText.l0, if_neg (by simp at h1; omega), if_pos (by omega)]
    exact ⟨_, rfl⟩
  | d + 1, k, x, s, h0, hx, h1, h9, hs, hk => by
    obtain ⟨k, rfl⟩ : ∃ m, k = m + 1 := ⟨k - 1, by omega⟩
    rw [laws_markText.l0]
    by_cases c : x > 0
    · have hp : (10 : Int) ^ (d + 1) = 10 * 10 ^ d := by rw [Int.pow_succ]; omega
      have ht : Int.tdiv x 10 = x / 10 := Int.tdiv_eq_ediv_of_nonneg h0
      rw [if_pos c, Option.bind_some, son_size, if_pos (by simp; omega), ht, wrap_id (x := x / 10) (by omega) (by omega)]
      refine mkT_l0 d k (x / 10) _ (by omega) (by omega) (by omega) (by omega) ?_ (by omega)
      rw [ByteArray.size_append, son_size]
      simp
      omega
    · rw [if_neg c, if_pos (by omega)]
      exact ⟨_, rfl⟩
theorem mkT_some (x : Int) (h0 : 0 ≤ x) (h1 : x ≤ 4000000) (k : Nat) (hk : 10 < k) : ∃ t, laws_markText.f k x = some t := by
  unfold laws_markText.f
  by_cases c : x ≤ 0
  · rw [if_pos c]; exact ⟨_, rfl⟩
  · rw [if_neg c]
    have h8 : (10 : Int) ^ 9 = 1000000000 := by decide
    exact mkT_l0 9 k x _ h0 h1 (by omega) (by omega) (by decide) (by omega)
def mkT (x : Int) : ByteArray := (laws_markText.f 20 x).getD (⟨#[]⟩ : ByteArray)
theorem mkT_eq (x : Int) (h0 : 0 ≤ x) (h1 : x ≤ 4000000) : ∀ m, laws_markText.f (20 + m) x = some (mkT x)
  | 0 => by
    obtain ⟨t, ht⟩ := mkT_some x h0 h1 20 (by omega)
    unfold mkT
    rw [Nat.add_zero, ht]
    rfl
  | m + 1 => laws_markText.mono x (20 + m) _ (mkT_eq x h0 h1 m)
theorem mkT_at (x : Int) (h0 : 0 ≤ x) (h1 : x ≤ 4000000) (k : Nat) (hk : 20 ≤ k) : laws_markText.f k x = some (mkT x) := by
  have := mkT_eq x h0 h1 (k - 20)
  rwa [show 20 + (k - 20) = k by omega] at this
def upS : Nat → Int → List ByteArray
  | 0, _ => []
  | n + 1, s => mkT s :: upS n (s + 1)
theorem upS_len : ∀ (n : Nat) (s : Int), (upS n s).length = n
  | 0, _ => rfl
  | n + 1, s => by simp [upS, upS_len n]
theorem markStr_l0 : ∀ (rest pre : List ByteArray) (s : Int) (k : Nat), pre.length + rest.length ≤ 1048576 → 0 ≤ s → s + rest.length ≤ 4000000 → rest.length + 30 < k →
    laws_markStringS.l0 k (pre ++ rest) s pre.length = some (s + rest.length, pre ++ upS rest.length s)
  | [], pre, s, k, _, _, _, hk => by
    obtain ⟨k, rfl⟩ : ∃ m, k = m + 1 := ⟨k - 1, by omega⟩
    rw [laws_markStringS.l0, if_neg (by simp)]
    simp [upS]
  | c :: rest, pre, s, k, h1, h2, h3, hk => by
    obtain ⟨k, rfl⟩ : ∃ m, k = m + 1 := ⟨k - 1, by omega⟩
    simp only [List.length_cons] at h1 h3 hk
    have w1 : wrap64 (s + 1) = s + 1 := wrap_id (by omega) (by omega)
    have w2 : wrap64 ((pre.length : Int) + 1) = (pre.length : Int) + 1 := wrap_id (by omega) (by omega)
    rw [laws_markStringS.l0, if_pos (by simp; omega), mkT_at s h2 (by omega) k (by omega), Option.bind_some, if_pos (show (0 : Int) ≤ (pre.length : Int) by omega), w1, w2]
    have e : (pre ++ c :: rest).set ((pre.length : Int)).toNat (mkT s) = (pre ++ [mkT s]) ++ rest := by
      rw [Int.toNat_natCast, List.set_append_right _ _ (Nat.le_refl _)]
      simp
    have := markStr_l0 rest (pre ++ [mkT s]) (s + 1) k (by simp; omega) (by omega) (by omega) (by omega)
    rw [e]
    simp only [List.length_append, List.length_cons, List.length_nil] at this ⊢
    rw [show ((pre.length : Int) + 1) = ((pre.length + (0 + 1) : Nat) : Int) by omega, this]
    simp [upS]
    omega
theorem markStr (l : List ByteArray) (hl : l.length ≤ 1048576) (k : Nat) (hk : l.length + 30 < k) : laws_markStringS.f k l 1 = some (1 + (l.length : Int), upS l.length 1) := by
  unfold laws_markStringS.f
  exact markStr_l0 l [] 1 k (by simpa using hl) (by omega) (by omega) hk
theorem heldStr_l0 : ∀ (n : Nat) (pre : List ByteArray) (s : Int) (k : Nat), pre.length + n ≤ 1048576 → 0 ≤ s → s + n ≤ 4000000 → n + 30 < k →
    laws_heldStringS.l0 k (pre ++ upS n s) s pre.length = some (s + n)
  | 0, pre, s, k, _, _, _, hk => by
    obtain ⟨k, rfl⟩ : ∃ m, k = m + 1 := ⟨k - 1, by omega⟩
    rw [laws_heldStringS.l0, if_neg (by simp [upS])]
    simp
  | n + 1, pre, s, k, h1, h2, h3, hk => by
    obtain ⟨k, rfl⟩ : ∃ m, k = m + 1 := ⟨k - 1, by omega⟩
    have w1 : wrap64 (s + 1) = s + 1 := wrap_id (by omega) (by omega)
    have w2 : wrap64 ((pre.length : Int) + 1) = (pre.length : Int) + 1 := wrap_id (by omega) (by omega)
    have hr : rdOf ByteArray.empty (pre ++ upS (n + 1) s) (pre.length : Int) = mkT s := by simp [rdOf, upS]
    rw [laws_heldStringS.l0, if_pos (by simp [upS_len]; omega), if_pos (show (0 : Int) ≤ (pre.length : Int) by omega), mkT_at s h2 (by omega) k (by omega), Option.bind_some, hr, if_pos rfl, w1, w2]
    have := heldStr_l0 n (pre ++ [mkT s]) (s + 1) k (by simp; omega) (by omega) (by omega) (by omega)
    rw [upS]
    simp only [List.length_append, List.length_cons, List.length_nil, List.append_assoc, List.cons_append, List.nil_append] at this ⊢
    rw [show ((pre.length : Int) + 1) = ((pre.length + (0 + 1) : Nat) : Int) by omega, this]
    congr 1
    omega
theorem heldStr (n : Nat) (hn : n ≤ 1048576) (k : Nat) (hk : n + 30 < k) : laws_heldStringS.f k (upS n 1) 1 = some (1 + (n : Int)) := by
  unfold laws_heldStringS.f
  exact heldStr_l0 n [] 1 k (by simpa using hn) (by omega) (by omega) hk

theorem sch_len {p b : ByteArray} {l : List ByteArray} (h : isSchT p b l = true) : l.length ≤ 3 := by
  simp only [isSchT, Bool.and_eq_true, decide_eq_true_eq] at h
  exact h.2.2.2.2.1
def awT (p b : ByteArray) (l : List ByteArray) (w : ByteArray) : ByteArray × ByteArray × List ByteArray × Bool := if (isSchT p b l && (signsB w 1 4 && !decide (l.length = 3))) = true then (p, b, l ++ [w], true) else ((⟨#[]⟩ : ByteArray), (⟨#[]⟩ : ByteArray), [], false)
theorem awT_len (p b : ByteArray) (l : List ByteArray) (w : ByteArray) : (awT p b l w).2.2.1.length ≤ 1048576 := by
  unfold awT
  split
  · next h =>
    rw [Bool.and_eq_true] at h
    have := sch_len h.1
    simp
    omega
  · simp
theorem spec_aw (p b : ByteArray) (l : List ByteArray) (w : ByteArray) (hp : p.size ≤ 1048576) (hb : b.size ≤ 1048576) (hl : l.length ≤ 1048576) (hs : ∀ x ∈ l, x.size ≤ 1048576) (hw : w.size ≤ 1048576) (k : Nat) (hk : 8000000 < k) : spec_AddWord.f k p b l w = some (awT p b l w) := by
  unfold spec_AddWord.f awT spec_l1OwnS.f
  rw [spec_good8 p b l hp hb hl hs _ (by omega), spec_signs w _ _ hw _ (by omega)]
  simp only [Option.bind_some, List.nil_append, List.length_nil]
  rw [if_pos (show 0 + l.length < 8796093022208 by omega)]
  simp only [Option.bind_some]
  rw [if_pos (show l.length + ([w] : List ByteArray).length < 8796093022208 by simp; omega)]
  by_cases c : l.length = 3
  · rw [if_pos (show (l.length : Int) = 3 by omega)]
    cases isSchT p b l <;> cases signsB w 1 4 <;> simp [c]
  · rw [if_neg (show ¬ (l.length : Int) = 3 by omega)]
    cases isSchT p b l <;> cases signsB w 1 4 <;> simp [c]
theorem impl_aw (p b : ByteArray) (l : List ByteArray) (w : ByteArray) (hp : p.size ≤ 1048576) (hb : b.size ≤ 1048576) (hl : l.length ≤ 1048576) (hs : ∀ x ∈ l, x.size ≤ 1048576) (hw : w.size ≤ 1048576) (k : Nat) (hk : 8000000 < k) : impl_AddWord.f k p b l w = some (awT p b l w) := by
  unfold impl_AddWord.f awT slices_Clone_string_string.f
  rw [impl_good8 p b l hp hb hl hs, impl_signs_ w _ _ hw _ (by omega)]
  simp only [Option.bind_some]
  rw [if_pos hl]
  simp only [Option.bind_some]
  rw [if_pos (show l.length + ([w] : List ByteArray).length < 8796093022208 by simp; omega)]
  by_cases c : l.length = 3
  · rw [if_pos (show (l.length : Int) = 3 by omega)]
    cases isSchT p b l <;> cases signsB w 1 4 <;> simp [c]
  · rw [if_neg (show ¬ (l.length : Int) = 3 by omega)]
    cases isSchT p b l <;> cases signsB w 1 4 <;> simp [c]
theorem markSch (p b : ByteArray) (l : List ByteArray) (hl : l.length ≤ 1048576) (k : Nat) (hk : 1048700 < k) : laws_markScheme.f k p b l 1 = some (1 + (l.length : Int), upS l.length 1) := by
  unfold laws_markScheme.f
  rw [markStr l hl _ (by omega)]
  rfl
theorem heldSch (p b : ByteArray) (n : Nat) (hn : n ≤ 1048576) (k : Nat) (hk : 1048700 < k) : laws_heldScheme.f k p b (upS n 1) 1 = some (1 + (n : Int)) := by
  unfold laws_heldScheme.f
  rw [heldStr n hn _ (by omega)]
  simp only [Option.bind_some]
  rw [if_neg (by omega)]
theorem FnExactAddWord (p b : ByteArray) (l : List ByteArray) (hp : p.size ≤ maxLen) (hb : b.size ≤ maxLen) (hl : l.length ≤ maxLen) (hx : ∀ x ∈ l, x.size ≤ maxLen) (w : ByteArray) (_ : w.size ≤ maxLen) : ∃ k, laws_FnExactAddWord.f k p b l w = some true := by
  refine ⟨9000003, ?_⟩
  unfold laws_FnExactAddWord.f
  by_cases hz : (w.size : Int) > 1048576
  · rw [if_pos hz]
  rw [if_neg hz]
  obtain ⟨z, h1, h2⟩ := sz8 p b l hp hb hl hx 9000003 (by omega)
  rw [h1]
  simp only [Option.bind_some]
  by_cases c : z < 0
  · rw [if_pos c]
  rw [if_neg c]
  obtain ⟨q1, q2, q3, q4⟩ := h2 c
  have hw : w.size ≤ 1048576 := by omega
  have ht := awT_len p b l w
  rw [to8 p b l q3 _ (by omega)]
  simp only [Option.bind_some]
  rw [spec_aw p b l w q1 q2 q3 q4 hw _ (by omega), impl_aw p b l w q1 q2 q3 q4 hw _ (by omega)]
  simp only [Option.bind_some]
  rw [eq8 _ _ _ ht _ (by omega)]
  simp only [Option.bind_some]
  rw [if_pos trivial, show (9000003 : Nat) = 9000002 + 1 from rfl, laws_FnExactAddWord.j0, bne_self_eq_false, if_neg (by decide), to8 p b l q3 _ (by omega)]
  simp only [Option.bind_some]
  rw [eq8 p b l q3 _ (by omega)]
  simp only [Option.bind_some]
  rw [if_pos trivial, markSch p b l q3 _ (by omega)]
  simp only [Option.bind_some]
  rw [if_neg (show ¬ (1 + (l.length : Int)) < 0 by omega), eq8 _ _ _ ht _ (by omega)]
  simp only [Option.bind_some]
  rw [if_pos trivial, show (9000002 : Nat) = 9000001 + 1 from rfl, laws_FnExactAddWord.j1, if_neg (by decide), markSch _ _ _ ht _ (by omega)]
  simp only [Option.bind_some]
  rw [heldSch _ _ _ ht _ (by omega)]
  simp only [Option.bind_some]
  rw [if_neg (by omega), if_pos trivial, to8 p b l q3 _ (by omega)]
  simp only [Option.bind_some]
  rw [impl_aw p b l w q1 q2 q3 q4 hw _ (by omega)]
  simp only [Option.bind_some]
  rw [eq8 _ _ _ ht _ (by omega)]
  simp only [Option.bind_some]
  rw [if_pos trivial, show (9000001 : Nat) = 9000000 + 1 from rfl, laws_FnExactAddWord.j2, bne_self_eq_false, if_neg (by decide), heldSch _ _ _ ht _ (by omega)]
  simp only [Option.bind_some]
  rw [if_neg (by omega), if_pos trivial]

end Go.Proofs.YtmplmfoacnnieaaDoor.Pure
