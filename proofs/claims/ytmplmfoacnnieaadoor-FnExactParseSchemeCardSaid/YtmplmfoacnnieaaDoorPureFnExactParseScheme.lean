/- For all texts the program's ParseScheme and the reference's answer alike: the plain law, without conditions. -/
import Derived.Test.YtmplmfoacnnieaaDoorPFnExactParseSchemex7
set_option linter.unusedVariables false
set_option linter.unusedSimpArgs false
namespace Go.Proofs.YtmplmfoacnnieaaDoor.Pure
open Go.RowKit Go.Proofs.YtmplmfoacnnieaaDoor.PFnExactParseScheme Go.Proofs.YtmplmfoacnnieaaDoorW.PrintWords Go.Proofs.YtmplmfoacnnieaaDoorW.PrintLast Go.Proofs.YtmplmfoacnnieaaDoorW.PrintMore

theorem wrap_id {x : Int} (h0 : -9223372036854775808 ≤ x) (h1 : x < 9223372036854775808) : wrap64 x = x := by
  unfold wrap64
  omega
theorem lit_wf {x : Int} (h : (Lit.int .i64 x).wf = true) : -9223372036854775808 ≤ x ∧ x < 9223372036854775808 := by
  have h2 := h
  simp [Lit.wf, IntKind.min, IntKind.max, IntKind.bits, IntKind.signed] at h2
  omega
theorem wrap_add (x y : Int) : wrap64 (wrap64 x + y) = wrap64 (x + y) := by
  have e : ∀ (m c : Int), ((x + c) % m - c + y + c) % m = (x + y + c) % m := fun m c => by
    have h1 : (x + c) % m - c + y + c = (x + c) % m + y := by generalize (x + c) % m = q; omega
    rw [h1, Int.emod_add_emod, show x + c + y = x + y + c by omega]
  unfold wrap64
  rw [e]
theorem wrap_sub (x y : Int) : wrap64 (wrap64 x - y) = wrap64 (x - y) := by
  rw [Int.sub_eq_add_neg, wrap_add, Int.sub_eq_add_neg]

theorem son_size (l : List Int) : (strOfNums l).size = l.length := by simp [strOfNums, ByteArray.size]
theorem son_nil : (⟨#[]⟩ : ByteArray) = strOfNums [] := rfl
theorem son_append (l m : List Int) : strOfNums l ++ strOfNums m = strOfNums (l ++ m) := by
  apply ByteArray.ext
  simp [strOfNums]
theorem son_extract (l : List Int) (i j : Nat) : (strOfNums l).extract i j = strOfNums ((l.take j).drop i) := by
  apply ByteArray.ext
  rw [ByteArray.data_extract]
  apply Array.ext'
  simp [strOfNums, Array.toList_extract, List.extract, List.map_take, List.map_drop, List.drop_take]
def byts (l : List Int) : Prop := ∀ c ∈ l, 0 ≤ c ∧ c < 256
theorem son_bt (l : List Int) (h : byts l) (i : Nat) (hi : i < l.length) : bt (strOfNums l) i = l[i] := by
  unfold bt
  have h1 : (i : Int).toNat < (strOfNums l).size := by rw [son_size]; simpa using hi
  rw [dif_pos h1]
  have h2 := h l[i] (List.getElem_mem hi)
  have h3 : ((strOfNums l)[(i : Int).toNat]'h1) = UInt8.ofNat (l[i]).toNat := by
    show (strOfNums l).data[(i : Int).toNat] = _
    simp [strOfNums]
  rw [h3]
  simp
  omega
theorem bytesOf_byts (s : ByteArray) : byts (bytesOf s) := by
  intro c hc
  simp only [bytesOf, List.mem_map] at hc
  obtain ⟨b, _, rfl⟩ := hc
  have := b.toNat_lt
  omega
theorem son_bytesOf (s : ByteArray) : strOfNums (bytesOf s) = s := by
  apply ByteArray.ext
  apply Array.ext'
  simp [strOfNums, bytesOf, Function.comp_def]
def digs (l : List Int) : Prop := ∀ c ∈ l, 48 ≤ c ∧ c ≤ 57
theorem digs_byts {l : List Int} (h : digs l) : byts l := fun c hc => by have := h c hc; omega
theorem digs_append {l m : List Int} (h : digs l) (k : digs m) : digs (l ++ m) := fun c hc => by
  rcases List.mem_append.mp hc with hc | hc
  · exact h c hc
  · exact k c hc
theorem digs_one {c : Int} (h : 48 ≤ c ∧ c ≤ 57) : digs [c] := fun x hx => by simp at hx; subst hx; exact h
theorem digs_take {l : List Int} (h : digs l) (n : Nat) : digs (l.take n) := fun c hc => h c (List.mem_of_mem_take hc)
theorem digs_drop {l : List Int} (h : digs l) (n : Nat) : digs (l.drop n) := fun c hc => h c (List.mem_of_mem_drop hc)
def sN : List Int → Int
  | [] => 0
  | c :: l => (c - 48) + sN l
theorem sN_append (l m : List Int) : sN (l ++ m) = sN l + sN m := by
  induction l with
  | nil => simp [sN]
  | cons c l ih => simp [sN, ih]; omega
theorem sN_range (l : List Int) (h : digs l) : 0 ≤ sN l ∧ sN l ≤ 9 * l.length := by
  induction l with
  | nil => simp [sN]
  | cons c l ih =>
    have h1 := h c (by simp)
    have h2 := ih (fun x hx => h x (by simp [hx]))
    simp [sN]; omega

theorem loop_len (s : ByteArray) (i : Nat) (r : List UInt8) : r.length ≤ (ByteArray.toList.loop s i r).length := by
  fun_induction ByteArray.toList.loop s i r with
  | case1 i r h ih => simp only [List.length_cons] at ih; omega
  | case2 i r h => simp
theorem toList_ne (s : ByteArray) (h : 0 < s.size) : ¬ (s.toList = ([] : List UInt8)) := by
  intro e
  unfold ByteArray.toList ByteArray.toList.loop at e
  rw [if_pos h] at e
  have := loop_len s (0 + 1) [s.get! 0]
  rw [e] at this
  simp at this
theorem toList_nil {s : ByteArray} (h : s.size = 0) : s.toList = ([] : List UInt8) := by
  unfold ByteArray.toList ByteArray.toList.loop
  rw [if_neg (by omega)]
  rfl
theorem toList_iff (s : ByteArray) : s.toList = ([] : List UInt8) ↔ s.size = 0 :=
  ⟨fun h => Decidable.byContradiction fun q => toList_ne s (by omega) h, fun h => toList_nil h⟩

theorem allS_bt (s : ByteArray) : ∀ (d i : Nat), allS s d i = true → ∀ j : Nat, i ≤ j → j < i + d → sgnB (bt s j) = true
  | 0, i, _, j, h1, h2 => by omega
  | d + 1, i, h, j, h1, h2 => by
    simp only [allS, Bool.and_eq_true] at h
    by_cases e : j = i
    · subst e; exact h.1
    · exact allS_bt s d (i + 1) h.2 j (by omega) (by omega)
theorem spec_sign (c : Int) : spec_plSign.f c = some (sgnB c) := by
  unfold spec_plSign.f sgnB
  by_cases h1 : c ≥ 65
  · have a1 : 65 ≤ c := h1
    rw [if_pos h1]
    by_cases h2 : c ≤ 90
    · rw [if_pos h2]; simp [a1, h2]
    · have a2 : ¬ c ≤ 57 := by omega
      rw [if_neg h2, if_pos (by omega)]; simp [h2, a2]
  · have a1 : ¬ 65 ≤ c := h1
    rw [if_neg h1]
    by_cases h3 : c ≥ 48
    · have a3 : 48 ≤ c := h3
      rw [if_pos h3]; simp [a1, a3]
    · have a3 : ¬ 48 ≤ c := h3
      rw [if_neg h3]; simp [a1, a3]
theorem spec_signs_l0 (s : ByteArray) (hn : s.size ≤ 1048576) : ∀ (d i k : Nat), i + d = s.size → d < k → spec_plSigns.l0 k s i = some (allS s d i)
  | 0, i, k, h, hk => by
    obtain ⟨k, rfl⟩ : ∃ m, k = m + 1 := ⟨k - 1, by omega⟩
    simp only [spec_plSigns.l0, allS]
    rw [if_neg (by omega)]
  | d + 1, i, k, h, hk => by
    obtain ⟨k, rfl⟩ : ∃ m, k = m + 1 := ⟨k - 1, by omega⟩
    simp only [spec_plSigns.l0, allS]
    rw [if_pos (by omega), if_pos (by omega), spec_sign]
    simp only [Option.bind_some]
    by_cases c : sgnB (bt s i) = true
    · rw [if_pos c, c, Bool.true_and, wrap_id (by omega) (by omega)]
      exact spec_signs_l0 s hn d (i + 1) k (by omega) (by omega)
    · rw [if_neg c]
      simp only [Bool.not_eq_true] at c
      rw [c]; rfl
theorem spec_signs (s : ByteArray) (lo hi : Int) (hn : s.size ≤ 1048576) (k : Nat) (hk : s.size < k) : spec_plSigns.f k s lo hi = some (signsB s lo hi) := by
  unfold spec_plSigns.f spec_l1In.f signsB
  by_cases h1 : (s.size : Int) ≥ lo
  · rw [if_pos h1]; simp only [Option.bind_some]
    by_cases h2 : (s.size : Int) ≤ hi
    · rw [if_pos (by simpa using h2)]
      have := spec_signs_l0 s hn s.size 0 k (by omega) hk
      rw [show ((0 : Nat) : Int) = 0 from rfl] at this
      rw [this]
      simp [h1, h2]
    · rw [if_neg (by simpa using h2)]
      simp [h2]
  · rw [if_neg h1]; simp only [Option.bind_some]
    rw [if_neg (by simp)]
    simp [h1]

theorem rdOf_get (l : List ByteArray) (i : Nat) (h : i < l.length) : rdOf ByteArray.empty l (i : Int) = l[i] := by
  unfold rdOf
  simp [h]
theorem in8 (a lo hi : Int) : spec_l1In.f a lo hi = some (decide (lo ≤ a) && decide (a ≤ hi)) := by
  unfold spec_l1In.f
  by_cases h1 : a ≥ lo
  · rw [if_pos h1]; simp; omega
  · rw [if_neg h1]; simp; omega
theorem within8 (a lo hi : Int) : impl_within.f a lo hi = some (decide (lo ≤ a) && decide (a ≤ hi)) := by
  unfold impl_within.f
  by_cases h1 : lo ≤ a
  · rw [if_pos h1]; simp [h1]
  · rw [if_neg h1]; simp; omega
theorem bt_list (p : ByteArray) (i : Nat) (h : i < p.data.toList.length) : bt p (i : Int) = ((p.data.toList[i]).toNat : Int) := by
  unfold bt
  have hd : p.data.toList.length = p.data.size := Array.length_toList
  have h1 : (i : Int).toNat < p.size := by
    show (i : Int).toNat < p.data.size
    omega
  rw [dif_pos h1]
  show ((p.data[i]'(by simpa using h)).toNat : Int) = _
  simp
def allLD (p : ByteArray) : Nat → Nat → Bool
  | 0, _ => true
  | d + 1, i => (decide (bt p i = 76) || decide (bt p i = 68)) && allLD p d (i + 1)
theorem allLD_list (p : ByteArray) : ∀ d i, i + d = p.data.toList.length → allLD p d i = (p.data.toList.drop i).all fun b => [76, 68].contains b
  | 0, i, h => by rw [List.drop_of_length_le (by omega)]; rfl
  | d + 1, i, h => by
    have hi : i < p.data.toList.length := by omega
    rw [allLD, allLD_list p d (i + 1) (by omega), List.drop_eq_getElem_cons hi, List.all_cons, bt_list p i hi]
    congr 1
    generalize p.data.toList[i] = c
    have e1 : ((c.toNat : Int) = 76) ↔ c = 76 := by
      constructor
      · intro q; apply UInt8.toNat_inj.mp; show c.toNat = 76; omega
      · rintro rfl; rfl
    have e2 : ((c.toNat : Int) = 68) ↔ c = 68 := by
      constructor
      · intro q; apply UInt8.toNat_inj.mp; show c.toNat = 68; omega
      · rintro rfl; rfl
    simp [e1, e2, Bool.decide_or]
theorem dw_nil (q : UInt8 → Bool) : ∀ l : List UInt8, l.dropWhile q = [] ↔ ∀ b ∈ l, q b = true
  | [] => by simp
  | a :: l => by
    rw [List.dropWhile_cons]
    by_cases c : q a = true
    · rw [if_pos c, dw_nil q l]; simp [c]
    · rw [if_neg c]; simp [c]
theorem trimS_nil (l cs : List UInt8) : Lib.trimS l cs = [] ↔ ∀ b ∈ l, cs.contains b = true := by
  unfold Lib.trimS Lib.trimLeftS Lib.trimRightS
  constructor
  · intro h
    rw [dw_nil] at h
    have h0 : l.reverse.dropWhile (cs.contains ·) = [] := by
      cases hq : l.reverse.dropWhile (cs.contains ·) with
      | nil => rfl
      | cons a r =>
        have h1 := List.head?_dropWhile_not (cs.contains ·) l.reverse
        rw [hq] at h1
        simp only [List.head?_cons] at h1
        have h2 := h a (by rw [hq]; simp)
        simp_all
    rw [dw_nil] at h0
    intro b hb
    exact h0 b (by simpa using hb)
  · intro h
    have h0 : l.reverse.dropWhile (cs.contains ·) = [] := by
      rw [dw_nil]
      intro b hb
      exact h b (by simpa using hb)
    rw [h0]
    rfl
theorem trim8 (p : ByteArray) : trimT p = allLD p p.size 0 := by
  have hsz : p.size = p.data.toList.length := Array.length_toList.symm
  rw [allLD_list p p.size 0 (by omega), List.drop_zero]
  unfold trimT
  have h1 : (trimZ p).toList = ([] : List UInt8) ↔ Lib.trimS p.data.toList [76, 68] = [] := by
    rw [toList_iff]
    unfold trimZ
    show (Lib.trimS p.data.toList [76, 68]).toArray.size = 0 ↔ _
    rw [List.size_toArray, List.length_eq_zero_iff]
  rw [trimS_nil] at h1
  rw [Bool.eq_iff_iff, beq_iff_eq, h1, List.all_eq_true]
theorem good_l2 (l : List ByteArray) (hl : l.length ≤ 1048576) (hs : ∀ x ∈ l, x.size ≤ 1048576) : ∀ d i k : Nat, i + d = l.length → d + 1048580 < k →
    spec_plGood.l2 k l (l.length : Int) (i : Int) = some ((l.drop i).all fun x => signsB x 1 4)
  | 0, i, k, e, hk => by
    obtain ⟨k, rfl⟩ : ∃ m, k = m + 1 := ⟨k - 1, by omega⟩
    rw [spec_plGood.l2, if_neg (show ¬ (i : Int) < (l.length : Int) by omega), List.drop_of_length_le (by omega)]
    rfl
  | d + 1, i, k, e, hk => by
    obtain ⟨k, rfl⟩ : ∃ m, k = m + 1 := ⟨k - 1, by omega⟩
    have hi : i < l.length := by omega
    rw [spec_plGood.l2, if_pos (show (i : Int) < (l.length : Int) by omega), if_pos (show (0 : Int) ≤ (i : Int) by omega), if_pos (show (i : Int) < (l.length : Int) by omega), rdOf_get l i hi, spec_signs l[i] 1 4 (hs _ (List.getElem_mem hi)) k (by have := hs _ (List.getElem_mem hi); omega)]
    simp only [Option.bind_some]
    rw [List.drop_eq_getElem_cons hi, List.all_cons]
    by_cases c : signsB l[i] 1 4 = true
    · rw [if_pos c, c, Bool.true_and, wrap_id (x := (i : Int) + 1) (by omega) (by omega)]
      exact good_l2 l hl hs d (i + 1) k (by omega) (by omega)
    · rw [if_neg c, Bool.eq_false_iff.mpr c]; rfl
theorem good_l1 (p b : ByteArray) (l : List ByteArray) (hb : b.size ≤ 1048576) (hl : l.length ≤ 1048576) (hs : ∀ x ∈ l, x.size ≤ 1048576) : ∀ d i k : Nat, 1 ≤ i → (i + d = b.size ∨ (d = 0 ∧ b.size ≤ i)) → d + l.length + 1048590 < k →
    spec_plGood.l1 k (i : Int) p b l = some (risesL d b (i : Int) && l.all fun x => signsB x 1 4)
  | 0, i, k, h1, e, hk => by
    obtain ⟨k, rfl⟩ : ∃ m, k = m + 1 := ⟨k - 1, by omega⟩
    have := good_l2 l hl hs l.length 0 k (by omega) (by omega)
    rw [List.drop_zero] at this
    rw [spec_plGood.l1, if_neg (show ¬ (i : Int) < (b.size : Int) by omega), risesL, Bool.true_and]
    exact this
  | d + 1, i, k, h1, e, hk => by
    obtain ⟨k, rfl⟩ : ∃ m, k = m + 1 := ⟨k - 1, by omega⟩
    rw [spec_plGood.l1, if_pos (show (i : Int) < (b.size : Int) by omega), wrap_id (x := (i : Int) - 1) (by omega) (by omega), if_pos (show (0 : Int) ≤ (i : Int) - 1 by omega), if_pos (show (i : Int) - 1 < (b.size : Int) by omega), if_pos (show (0 : Int) ≤ (i : Int) by omega), risesL]
    by_cases c : bt b (i : Int) ≤ bt b ((i : Int) - 1)
    · rw [if_pos c, if_pos c]; rfl
    · rw [if_neg c, if_neg c, wrap_id (x := (i : Int) + 1) (by omega) (by omega), show (i : Int) + 1 = ((i + 1 : Nat) : Int) by omega]
      exact good_l1 p b l hb hl hs d (i + 1) k (by omega) (by omega) (by omega)
theorem good_l0 (p b : ByteArray) (l : List ByteArray) (hp : p.size ≤ 1048576) (hb : b.size ≤ 1048576) (hl : l.length ≤ 1048576) (hs : ∀ x ∈ l, x.size ≤ 1048576) : ∀ d i k : Nat, i + d = p.size → d + 5000000 < k →
    spec_plGood.l0 k (i : Int) p b l = some (allLD p d i && (risesL (b.size - 1) b 1 && l.all fun x => signsB x 1 4))
  | 0, i, k, e, hk => by
    obtain ⟨k, rfl⟩ : ∃ m, k = m + 1 := ⟨k - 1, by omega⟩
    rw [spec_plGood.l0, if_neg (show ¬ (i : Int) < (p.size : Int) by omega), allLD, Bool.true_and]
    exact good_l1 p b l hb hl hs (b.size - 1) 1 k (by omega) (by omega) (by omega)
  | d + 1, i, k, e, hk => by
    obtain ⟨k, rfl⟩ : ∃ m, k = m + 1 := ⟨k - 1, by omega⟩
    have ih := good_l0 p b l hp hb hl hs d (i + 1) k (by omega) (by omega)
    rw [spec_plGood.l0, if_pos (show (i : Int) < (p.size : Int) by omega), if_pos (show (0 : Int) ≤ (i : Int) by omega), wrap_id (x := (i : Int) + 1) (by omega) (by omega), show (i : Int) + 1 = ((i + 1 : Nat) : Int) by omega, allLD]
    by_cases c : bt p (i : Int) = 76
    · rw [if_pos c, ih]; simp [c]
    · rw [if_neg c]
      by_cases c2 : bt p (i : Int) = 68
      · rw [if_pos c2, ih]; simp [c2]
      · rw [if_neg c2]; simp [c, c2]
theorem spec_good8 (p b : ByteArray) (l : List ByteArray) (hp : p.size ≤ 1048576) (hb : b.size ≤ 1048576) (hl : l.length ≤ 1048576) (hs : ∀ x ∈ l, x.size ≤ 1048576) (k : Nat) (hk : 7000000 < k) : spec_plGood.f k p b l = some (isSchT p b l) := by
  have hn : (l.any fun x => !signsB x 1 4) = !(l.all fun x => signsB x 1 4) := by
    induction l with
    | nil => rfl
    | cons a l ih => rw [List.any_cons, List.all_cons, ih (by simp at hl; omega) (fun x hx => hs x (List.mem_cons_of_mem _ hx)), Bool.not_and]
  obtain ⟨k, rfl⟩ : ∃ m, k = m + 1 := ⟨k - 1, by omega⟩
  have h0 := good_l0 p b l hp hb hl hs p.size 0 k (by omega) (by omega)
  rw [show ((0 : Nat) : Int) = 0 from rfl] at h0
  unfold spec_plGood.f isSchT
  rw [in8, spec_signs b 0 36 hb _ (by omega), hn, Bool.not_not, trim8]
  simp only [Option.bind_some, spec_plGood.j0]
  rw [h0]
  by_cases c1 : (decide (1 ≤ (p.size : Int)) && decide ((p.size : Int) ≤ 8)) = true
  · rw [if_pos c1, c1]
    by_cases c2 : signsB b 0 36 = true
    · rw [if_pos c2, c2]
      by_cases c3 : l.length ≤ 3
      · rw [if_neg (by simp; omega), decide_eq_true c3]
        simp only [Bool.true_and, Bool.and_assoc, Bool.and_true]
        congr 1
        cases allLD p p.size 0 <;> cases risesL (b.size - 1) b 1 <;> rfl
      · rw [if_pos (by simp; omega), decide_eq_false c3]
        simp
    · rw [if_neg c2, if_pos trivial, Bool.eq_false_iff.mpr c2]
      simp
  · rw [if_neg c1, if_pos trivial, Bool.eq_false_iff.mpr c1]
    simp
/-! how large it is, its copy, and whether two are alike -/
theorem eqS_l0 (l : List ByteArray) (hl : l.length ≤ 1048576) : ∀ d i k : Nat, i + d = l.length → d < k → laws_eqStringS.l0 k l l (i : Int) = some true
  | 0, i, k, e, hk => by
    obtain ⟨k, rfl⟩ : ∃ m, k = m + 1 := ⟨k - 1, by omega⟩
    rw [laws_eqStringS.l0, if_neg (show ¬ (i : Int) < (l.length : Int) by omega)]
  | d + 1, i, k, e, hk => by
    obtain ⟨k, rfl⟩ : ∃ m, k = m + 1 := ⟨k - 1, by omega⟩
    rw [laws_eqStringS.l0, if_pos (show (i : Int) < (l.length : Int) by omega), if_pos (show (0 : Int) ≤ (i : Int) by omega), if_pos (show (i : Int) < (l.length : Int) by omega), if_pos rfl, wrap_id (x := (i : Int) + 1) (by omega) (by omega), show (i : Int) + 1 = ((i + 1 : Nat) : Int) by omega]
    exact eqS_l0 l hl d (i + 1) k (by omega) (by omega)
theorem eq8 (p b : ByteArray) (l : List ByteArray) (hl : l.length ≤ 1048576) (k : Nat) (hk : 1048580 < k) : laws_eqScheme.f k p b l p b l = some true := by
  unfold laws_eqScheme.f laws_eqStringS.f
  have h := eqS_l0 l hl l.length 0 k (by omega) (by omega)
  rw [show ((0 : Nat) : Int) = 0 from rfl] at h
  rw [if_pos rfl, if_pos rfl, if_pos rfl, h]
  rfl
theorem small8 {p b : ByteArray} {l : List ByteArray} (hp : p.size ≤ 1048576) (hb : b.size ≤ 1048576) (hl : l.length ≤ 1048576) (hs : ∀ x ∈ l, x.size ≤ 1048576) : smallS p b l = true := by
  simp only [smallS, Bool.and_eq_true, decide_eq_true_eq, List.all_eq_true]
  exact ⟨⟨⟨hp, hb⟩, hl⟩, hs⟩
theorem impl_good8 (p b : ByteArray) (l : List ByteArray) (hp : p.size ≤ 1048576) (hb : b.size ≤ 1048576) (hl : l.length ≤ 1048576) (hs : ∀ x ∈ l, x.size ≤ 1048576) : impl_IsScheme.f p b l = some (isSchT p b l) := by
  unfold impl_IsScheme.f
  rw [if_pos (small8 hp hb hl hs)]

def textL (l : List ByteArray) (x : ByteArray) : ByteArray := l.foldl (fun x w => x ++ ((⟨#[126]⟩ : ByteArray) ++ w)) x
def schT (p b : ByteArray) (l : List ByteArray) : ByteArray := textL l (if b.toList = ([] : List UInt8) then p else p ++ ((⟨#[33]⟩ : ByteArray) ++ b))
theorem one_size (c : UInt8) : (⟨#[c]⟩ : ByteArray).size = 1 := rfl
theorem spec_txt_l0 (l : List ByteArray) (hl : l.length ≤ 1048576) (hs : ∀ x ∈ l, x.size ≤ 1048576) : ∀ (d i k : Nat) (x : ByteArray), i + d = l.length → x.size + d * 1048577 ≤ 1152921504606846976 → d < k →
    spec_plText.l0 k x l (l.length : Int) (i : Int) = some (textL (l.drop i) x)
  | 0, i, k, x, e, hx, hk => by
    obtain ⟨k, rfl⟩ : ∃ m, k = m + 1 := ⟨k - 1, by omega⟩
    rw [spec_plText.l0, if_neg (show ¬ (i : Int) < (l.length : Int) by omega), List.drop_of_length_le (by omega)]
    rfl
  | d + 1, i, k, x, e, hx, hk => by
    obtain ⟨k, rfl⟩ : ∃ m, k = m + 1 := ⟨k - 1, by omega⟩
    have hi : i < l.length := by omega
    have hsi := hs l[i] (List.getElem_mem hi)
    rw [spec_plText.l0, if_pos (show (i : Int) < (l.length : Int) by omega), if_pos (show (0 : Int) ≤ (i : Int) by omega), if_pos (show (i : Int) < (l.length : Int) by omega), rdOf_get l i hi, if_pos (by omega), ByteArray.size_append, one_size, if_pos (by omega), wrap_id (x := (i : Int) + 1) (by omega) (by omega), show (i : Int) + 1 = ((i + 1 : Nat) : Int) by omega, spec_txt_l0 l hl hs d (i + 1) k _ (by omega) (by rw [ByteArray.size_append, ByteArray.size_append, one_size]; omega) (by omega), List.drop_eq_getElem_cons hi]
    rfl
theorem spec_txt (p b : ByteArray) (l : List ByteArray) (hp : p.size ≤ 1048576) (hb : b.size ≤ 1048576) (hl : l.length ≤ 1048576) (hs : ∀ x ∈ l, x.size ≤ 1048576) (k : Nat) (hk : 1048600 < k) : spec_plText.f k p b l = some (schT p b l) := by
  obtain ⟨k, rfl⟩ : ∃ m, k = m + 1 := ⟨k - 1, by omega⟩
  unfold spec_plText.f schT
  by_cases c : b.toList = ([] : List UInt8)
  · rw [if_pos c, if_pos c, spec_plText.j0]
    have h := spec_txt_l0 l hl hs l.length 0 k p (by omega) (by omega) (by omega)
    rw [show ((0 : Nat) : Int) = 0 from rfl] at h
    rw [h, List.drop_zero]
  · rw [if_neg c, if_neg c, if_pos (by omega), ByteArray.size_append, one_size, if_pos (by omega), spec_plText.j0]
    have h := spec_txt_l0 l hl hs l.length 0 k (p ++ ((⟨#[33]⟩ : ByteArray) ++ b)) (by omega) (by rw [ByteArray.size_append, ByteArray.size_append, one_size]; omega) (by omega)
    rw [show ((0 : Nat) : Int) = 0 from rfl] at h
    rw [h, List.drop_zero]
theorem txt_same_l0 : ∀ (k : Nat) (x : ByteArray) (l : List ByteArray) (n i : Int), impl_schemeText.l0 k x l n i = spec_plText.l0 k x l n i
  | 0, _, _, _, _ => rfl
  | k + 1, x, l, n, i => by rw [impl_schemeText.l0, spec_plText.l0, txt_same_l0 k]
theorem txt_same (k : Nat) (p b : ByteArray) (l : List ByteArray) : impl_schemeText.f k p b l = spec_plText.f k p b l := by
  have h : ∀ x, impl_schemeText.j0 k x p b l = spec_plText.j0 k x p b l := fun x => by
    cases k with
    | zero => rfl
    | succ k => rw [impl_schemeText.j0, spec_plText.j0, txt_same_l0]
  unfold impl_schemeText.f spec_plText.f
  rw [h, h]

def upL : Nat → Int → List Int
  | 0, _ => []
  | n + 1, s => s :: upL n (s + 1)
theorem upL_len : ∀ (n : Nat) (s : Int), (upL n s).length = n
  | 0, _ => rfl
  | n + 1, s => by simp [upL, upL_len n]
theorem eqStr_l0 (l : List ByteArray) (hl : l.length ≤ 1048576) : ∀ (d i k : Nat), i + d = l.length → d < k → laws_eqStringS.l0 k l l i = some true
  | 0, i, k, e, hk => by
    obtain ⟨k, rfl⟩ : ∃ m, k = m + 1 := ⟨k - 1, by omega⟩
    rw [laws_eqStringS.l0, if_neg (show ¬ (i : Int) < (l.length : Int) by omega)]
  | d + 1, i, k, e, hk => by
    obtain ⟨k, rfl⟩ : ∃ m, k = m + 1 := ⟨k - 1, by omega⟩
    have q : (i : Int) < (l.length : Int) := by omega
    have w1 : wrap64 ((i : Int) + 1) = ((i + 1 : Nat) : Int) := by rw [wrap_id (by omega) (by omega)]; omega
    rw [laws_eqStringS.l0, if_pos q, if_pos (show (0 : Int) ≤ (i : Int) by omega), if_pos q, if_pos rfl, w1]
    exact eqStr_l0 l hl d (i + 1) k (by omega) (by omega)
theorem eqStr_self (l : List ByteArray) (hl : l.length ≤ 1048576) (k : Nat) (hk : l.length < k) : laws_eqStringS.f k l l = some true := by
  unfold laws_eqStringS.f
  rw [if_pos rfl]
  exact eqStr_l0 l hl l.length 0 k (by omega) hk
theorem mkT_l0 : ∀ (d k : Nat) (x : Int) (s : ByteArray), 0 ≤ x → x ≤ 4000000 → x < 10 ^ d → d ≤ 9 → s.size + d ≤ 1000 → d < k → ∃ t, laws_markText.l0 k x s = some t
  | 0, k, x, s, h0, hx, h1, h9, hs, hk => by
    obtain ⟨k, rfl⟩ : ∃ m, k = m + 1 := ⟨k - 1, by omega⟩
    rw [laws_markText.l0, if_neg (by simp at h1; omega), if_pos (by omega)]
    exact ⟨_, rfl⟩
  | d + 1, k, x, s, h0, hx, h1, h9, hs, hk => by
    obtain ⟨k, rfl⟩ : ∃ m, k = m + 1 := ⟨k - 1, by omega⟩
    rw [laws_markText.l0]
    by_cases c : x > 0
    · have hp : (10 : Int) ^ (d + 1) = 10 * 10 ^ d := by rw [Int.pow_succ]; omega
      have ht : Int.tdiv x 10 = x / 10 := Int.tdiv_eq_ediv_of_nonneg h0
      rw [if_pos c, Option.bind_some, son_size, if_pos (by simp; omega), ht, wrap_id (x := x / 10) (by omega) (by omega)]
      refine mkT_l0 d k (x / 10) _ (by omega) (by omega) (by omega) (by omega) ?_ (by omega)
      rw [ByteArray.size_append, son_size]
      simp
      omega
    · rw [if_neg c, if_pos (by omega)]
      exact ⟨_, rfl⟩
theorem mkT_some (x : Int) (h0 : 0 ≤ x) (h1 : x ≤ 4000000) (k : Nat) (hk : 10 < k) : ∃ t, laws_markText.f k x = some t := by
  unfold laws_markText.f
  by_cases c : x ≤ 0
  · rw [if_pos c]; exact ⟨_, rfl⟩
  · rw [if_neg c]
    have h8 : (10 : Int) ^ 9 = 1000000000 := by decide
    exact mkT_l0 9 k x _ h0 h1 (by omega) (by omega) (by decide) (by omega)
def mkT (x : Int) : ByteArray := (laws_markText.f 20 x).getD (⟨#[]⟩ : ByteArray)
theorem mkT_eq (x : Int) (h0 : 0 ≤ x) (h1 : x ≤ 4000000) : ∀ m, laws_markText.f (20 + m) x = some (mkT x)
  | 0 => by
    obtain ⟨t, ht⟩ := mkT_some x h0 h1 20 (by omega)
    unfold mkT
    rw [Nat.add_zero, ht]
    rfl
  | m + 1 => laws_markText.mono x (20 + m) _ (mkT_eq x h0 h1 m)
theorem mkT_at (x : Int) (h0 : 0 ≤ x) (h1 : x ≤ 4000000) (k : Nat) (hk : 20 ≤ k) : laws_markText.f k x = some (mkT x) := by
  have := mkT_eq x h0 h1 (k - 20)
  rwa [show 20 + (k - 20) = k by omega] at this
def upS : Nat → Int → List ByteArray
  | 0, _ => []
  | n + 1, s => mkT s :: upS n (s + 1)
theorem upS_len : ∀ (n : Nat) (s : Int), (upS n s).length = n
  | 0, _ => rfl
  | n + 1, s => by simp [upS, upS_len n]
theorem markStr_l0 : ∀ (rest pre : List ByteArray) (s : Int) (k : Nat), pre.length + rest.length ≤ 1048576 → 0 ≤ s → s + rest.length ≤ 4000000 → rest.length + 30 < k →
    laws_markStringS.l0 k (pre ++ rest) s pre.length = some (s + rest.length, pre ++ upS rest.length s)
  | [], pre, s, k, _, _, _, hk => by
    obtain ⟨k, rfl⟩ : ∃ m, k = m + 1 := ⟨k - 1, by omega⟩
    rw [laws_markStringS.l0, if_neg (by simp)]
    simp [upS]
  | c :: rest, pre, s, k, h1, h2, h3, hk => by
    obtain ⟨k, rfl⟩ : ∃ m, k = m + 1 := ⟨k - 1, by omega⟩
    simp only [List.length_cons] at h1 h3 hk
    have w1 : wrap64 (s + 1) = s + 1 := wrap_id (by omega) (by omega)
    have w2 : wrap64 ((pre.length : Int) + 1) = (pre.length : Int) + 1 := wrap_id (by omega) (by omega)
    rw [laws_markStringS.l0, if_pos (by simp; omega), mkT_at s h2 (by omega) k (by omega), Option.bind_some, if_pos (show (0 : Int) ≤ (pre.length : Int) by omega), w1, w2]
    have e : (pre ++ c :: rest).set ((pre.length : Int)).toNat (mkT s) = (pre ++ [mkT s]) ++ rest := by
      rw [Int.toNat_natCast, List.set_append_right _ _ (Nat.le_refl _)]
      simp
    have := markStr_l0 rest (pre ++ [mkT s]) (s + 1) k (by simp; omega) (by omega) (by omega) (by omega)
    rw [e]
    simp only [List.length_append, List.length_cons, List.length_nil] at this ⊢
    rw [show ((pre.length : Int) + 1) = ((pre.length + (0 + 1) : Nat) : Int) by omega, this]
    simp [upS]
    omega
theorem markStr (l : List ByteArray) (hl : l.length ≤ 1048576) (k : Nat) (hk : l.length + 30 < k) : laws_markStringS.f k l 1 = some (1 + (l.length : Int), upS l.length 1) := by
  unfold laws_markStringS.f
  exact markStr_l0 l [] 1 k (by simpa using hl) (by omega) (by omega) hk
theorem heldStr_l0 : ∀ (n : Nat) (pre : List ByteArray) (s : Int) (k : Nat), pre.length + n ≤ 1048576 → 0 ≤ s → s + n ≤ 4000000 → n + 30 < k →
    laws_heldStringS.l0 k (pre ++ upS n s) s pre.length = some (s + n)
  | 0, pre, s, k, _, _, _, hk => by
    obtain ⟨k, rfl⟩ : ∃ m, k = m + 1 := ⟨k - 1, by omega⟩
    rw [laws_heldStringS.l0, if_neg (by simp [upS])]
    simp
  | n + 1, pre, s, k, h1, h2, h3, hk => by
    obtain ⟨k, rfl⟩ : ∃ m, k = m + 1 := ⟨k - 1, by omega⟩
    have w1 : wrap64 (s + 1) = s + 1 := wrap_id (by omega) (by omega)
    have w2 : wrap64 ((pre.length : Int) + 1) = (pre.length : Int) + 1 := wrap_id (by omega) (by omega)
    have hr : rdOf ByteArray.empty (pre ++ upS (n + 1) s) (pre.length : Int) = mkT s := by simp [rdOf, upS]
    rw [laws_heldStringS.l0, if_pos (by simp [upS_len]; omega), if_pos (show (0 : Int) ≤ (pre.length : Int) by omega), mkT_at s h2 (by omega) k (by omega), Option.bind_some, hr, if_pos rfl, w1, w2]
    have := heldStr_l0 n (pre ++ [mkT s]) (s + 1) k (by simp; omega) (by omega) (by omega) (by omega)
    rw [upS]
    simp only [List.length_append, List.length_cons, List.length_nil, List.append_assoc, List.cons_append, List.nil_append] at this ⊢
    rw [show ((pre.length : Int) + 1) = ((pre.length + (0 + 1) : Nat) : Int) by omega, this]
    congr 1
    omega
theorem heldStr (n : Nat) (hn : n ≤ 1048576) (k : Nat) (hk : n + 30 < k) : laws_heldStringS.f k (upS n 1) 1 = some (1 + (n : Int)) := by
  unfold laws_heldStringS.f
  exact heldStr_l0 n [] 1 k (by simpa using hn) (by omega) (by omega) hk

def cutAt (c : UInt8) : List UInt8 → List (List UInt8)
  | [] => [[]]
  | b :: l => if b = c then [] :: cutAt c l else match cutAt c l with
    | h :: r => (b :: h) :: r
    | [] => [[b]]
theorem cutAt_ne (c : UInt8) : ∀ l, ∃ h r, cutAt c l = h :: r
  | [] => ⟨[], [], rfl⟩
  | b :: l => by
    rw [cutAt]
    by_cases e : b = c
    · rw [if_pos e]; exact ⟨_, _, rfl⟩
    · rw [if_neg e]
      obtain ⟨h, r, q⟩ := cutAt_ne c l
      rw [q]; exact ⟨_, _, rfl⟩
theorem splitK_cut (c : UInt8) : ∀ l : List UInt8, Lib.splitK [c] 0 (Lib.count l [c]) l = cutAt c l
  | [] => by rw [Lib.count_one]; rfl
  | b :: l => by
    have ih := splitK_cut c l
    rw [cutAt]
    by_cases e : b = c
    · subst e
      have hix : Lib.index (b :: l) [b] = ((0 : Nat) : Int) := by rw [Lib.index]; simp [List.isPrefixOf]
      rw [if_pos rfl, Lib.count_cons_eq, Nat.add_comm, Lib.splitK, hix, if_neg (by decide), ← ih]
      rfl
    · have hp : ([c] : List UInt8).isPrefixOf (b :: l) = false := by simp [List.isPrefixOf, Ne.symm e]
      have hix : Lib.index (b :: l) [c] = if Lib.index l [c] == -1 then -1 else Lib.index l [c] + 1 := by rw [Lib.index, hp]; simp
      rw [if_neg e, Lib.count_cons_ne b c l e, ← ih]
      cases hn : Lib.count l [c] with
      | zero => rfl
      | succ m =>
        have hm : ¬ Lib.index l [c] = -1 := fun q => by rw [Lib.count_miss q] at hn; cases hn
        have hge := Lib.index_ge l [c]
        obtain ⟨j, hj⟩ : ∃ j : Nat, Lib.index l [c] = j := ⟨(Lib.index l [c]).toNat, by omega⟩
        have hix' : Lib.index (b :: l) [c] = ((j + 1 : Nat) : Int) := by rw [hix, if_neg (fun q => hm (beq_iff_eq.1 q)), hj]; omega
        have a1 : ¬ (((j : Nat) : Int) == -1) = true := fun q => by have := beq_iff_eq.1 q; omega
        have a2 : ¬ (((j + 1 : Nat) : Int) == -1) = true := fun q => by have := beq_iff_eq.1 q; omega
        rw [Lib.splitK, Lib.splitK, hix', hj, if_neg a1, if_neg a2]
        simp
/-- the number of bytes of a text that is put together again -/
def joinN : List (List UInt8) → Nat
  | [] => 0
  | x :: r => x.length + 1 + joinN r
theorem cutAt_sum (c : UInt8) : ∀ l, joinN (cutAt c l) = l.length + 1
  | [] => rfl
  | b :: l => by
    have ih := cutAt_sum c l
    rw [cutAt]
    by_cases e : b = c
    · rw [if_pos e, joinN, ih]; simp; omega
    · rw [if_neg e]
      obtain ⟨h, r, q⟩ := cutAt_ne c l
      rw [q] at ih ⊢
      simp only [joinN, List.length_cons] at ih ⊢
      omega
theorem cutAt_len (c : UInt8) (l : List UInt8) : (cutAt c l).length = l.count c + 1 := by
  induction l with
  | nil => rfl
  | cons b l ih =>
    rw [cutAt]
    by_cases e : b = c
    · rw [if_pos e, List.length_cons, ih, e, List.count_cons_self]
    · rw [if_neg e, List.count_cons_of_ne (by simpa using e)]
      obtain ⟨h, r, q⟩ := cutAt_ne c l
      rw [q] at ih ⊢
      simpa using ih
theorem psT_cut (t : ByteArray) : (psT t).map (·.data.toList) = cutAt 126 t.data.toList := by
  unfold psT
  rw [Lib.splitB_data]
  exact splitK_cut 126 t.data.toList
theorem dl_inj {x y : ByteArray} (h : x.data.toList = y.data.toList) : x = y := ByteArray.ext (Array.ext' h)
theorem split_l0 (s : ByteArray) (hs : s.size ≤ 1048576) (c : UInt8) : ∀ (d i f k : Nat) (o : List ByteArray), i + d = s.size → f ≤ i → o.length ≤ i → d < k →
    ∃ R, spec_l1Split.l0 k s (c.toNat : Int) o (f : Int) (i : Int) = some R ∧ ∀ h r, cutAt c (s.data.toList.drop i) = h :: r → R.map (·.data.toList) = o.map (·.data.toList) ++ (((s.data.toList.take i).drop f ++ h) :: r)
  | 0, i, f, k, o, e, hf, ho, hk => by
    obtain ⟨k, rfl⟩ : ∃ m, k = m + 1 := ⟨k - 1, by omega⟩
    have hl : s.data.toList.length = s.size := Array.length_toList
    rw [spec_l1Split.l0, if_neg (show ¬ (i : Int) < (s.size : Int) by omega), if_pos (show (0 : Int) ≤ (f : Int) by omega), if_pos (show (f : Int) ≤ (s.size : Int) by omega), if_pos (by omega), show ((f : Int)).toNat = f by omega]
    refine ⟨_, rfl, fun h r q => ?_⟩
    rw [List.drop_of_length_le (by omega)] at q
    simp only [cutAt, List.cons.injEq] at q
    obtain ⟨rfl, rfl⟩ := q
    rw [List.map_append, List.map_singleton, List.append_nil, ByteArray.data_extract, Array.toList_extract, List.extract, List.drop_take]
    congr 2
    rw [show i = s.size by omega]
  | d + 1, i, f, k, o, e, hf, ho, hk => by
    obtain ⟨k, rfl⟩ : ∃ m, k = m + 1 := ⟨k - 1, by omega⟩
    have hl : s.data.toList.length = s.size := Array.length_toList
    have hi : i < s.data.toList.length := by omega
    rw [spec_l1Split.l0, if_pos (show (i : Int) < (s.size : Int) by omega), if_pos (show (0 : Int) ≤ (i : Int) by omega), wrap_id (x := (i : Int) + 1) (by omega) (by omega), show (i : Int) + 1 = ((i + 1 : Nat) : Int) by omega, bt_list s i hi]
    have hdrop := List.drop_eq_getElem_cons hi
    by_cases q : s.data.toList[i] = c
    · rw [if_pos (by rw [q]), if_pos (show (0 : Int) ≤ (f : Int) by omega), if_pos (show (f : Int) ≤ (i : Int) by omega), if_pos (show (i : Int) ≤ (s.size : Int) by omega), if_pos (by omega), show ((f : Int)).toNat = f by omega, show ((i : Int)).toNat = i by omega]
      obtain ⟨R, h1, h2⟩ := split_l0 s hs c d (i + 1) (i + 1) k (o ++ [s.extract f i]) (by omega) (Nat.le_refl _) (by simp; omega) (by omega)
      refine ⟨R, h1, fun h r z => ?_⟩
      rw [hdrop, cutAt, if_pos q] at z
      injection z with z1 z2
      obtain ⟨h', r', y⟩ := cutAt_ne c (s.data.toList.drop (i + 1))
      rw [h2 h' r' y, ← z1, ← z2, y, List.map_append, List.map_singleton, List.append_assoc]
      congr 1
      rw [List.drop_of_length_le (by simp; omega), List.nil_append, ByteArray.data_extract, Array.toList_extract, List.extract, List.append_nil, List.drop_take]
      rfl
    · rw [if_neg (fun z => q (UInt8.toNat_inj.mp (by omega)))]
      obtain ⟨R, h1, h2⟩ := split_l0 s hs c d (i + 1) f k o (by omega) (by omega) (by omega) (by omega)
      refine ⟨R, h1, fun h r z => ?_⟩
      obtain ⟨h', r', y⟩ := cutAt_ne c (s.data.toList.drop (i + 1))
      rw [hdrop, cutAt, if_neg q, y] at z
      injection z with z1 z2
      rw [h2 h' r' y, ← z1, ← z2, List.take_succ_eq_append_getElem hi, List.drop_append_of_le_length (by simp; omega), List.append_assoc]
      rfl
theorem spec_split (s : ByteArray) (hs : s.size ≤ 1048576) (c : UInt8) (k : Nat) (hk : 1048580 < k) : ∃ R, spec_l1Split.f k s (c.toNat : Int) = some R ∧ R.map (·.data.toList) = cutAt c s.data.toList := by
  unfold spec_l1Split.f
  obtain ⟨R, h1, h2⟩ := split_l0 s hs c s.size 0 0 k [] (by omega) (by omega) (by simp) (by omega)
  rw [show ((0 : Nat) : Int) = 0 from rfl] at h1
  obtain ⟨h, r, q⟩ := cutAt_ne c s.data.toList
  refine ⟨R, h1, ?_⟩
  rw [h2 h r (by rw [List.drop_zero]; exact q), q]
  simp

theorem idx_split (c : UInt8) : ∀ L : List UInt8, (Lib.index L [c] = -1 ∧ cutAt c L = [L]) ∨ ∃ i : Nat, Lib.index L [c] = (i : Int) ∧ i < L.length ∧ cutAt c L = L.take i :: cutAt c (L.drop (i + 1)) ∧ (0 < (L.drop (i + 1)).count c ∨ (L.drop (i + 1)).count c = 0)
  | [] => .inl ⟨rfl, rfl⟩
  | b :: l => by
    by_cases e : b = c
    · subst e
      have hix : Lib.index (b :: l) [b] = ((0 : Nat) : Int) := by rw [Lib.index]; simp [List.isPrefixOf]
      exact .inr ⟨0, hix, by simp, by rw [cutAt, if_pos rfl]; rfl, by omega⟩
    · have hp : ([c] : List UInt8).isPrefixOf (b :: l) = false := by simp [List.isPrefixOf, Ne.symm e]
      have hix : Lib.index (b :: l) [c] = if Lib.index l [c] == -1 then -1 else Lib.index l [c] + 1 := by rw [Lib.index, hp]; simp
      rcases idx_split c l with ⟨h1, h2⟩ | ⟨i, h1, h2, h3, h4⟩
      · exact .inl ⟨by rw [hix, h1]; rfl, by rw [cutAt, if_neg e, h2]⟩
      · have a1 : ¬ (((i : Nat) : Int) == -1) = true := fun q => by have := beq_iff_eq.1 q; omega
        refine .inr ⟨i + 1, by rw [hix, h1, if_neg a1]; omega, by simp; omega, by rw [cutAt, if_neg e, h3]; rfl, by omega⟩
theorem lib_cut (L : List UInt8) (c : UInt8) : (Lib.index L [c] = -1 → Lib.cut L [c] = (L, [], false)) ∧ ∀ i : Nat, Lib.index L [c] = (i : Int) → Lib.cut L [c] = (L.take i, L.drop (i + 1), true) := by
  constructor
  · intro h
    unfold Lib.cut
    rw [h, if_neg (by decide)]
  · intro i h
    unfold Lib.cut
    rw [h, if_pos (by omega)]
    rfl
theorem joinN_mem : ∀ (L : List (List UInt8)) (x : List UInt8), x ∈ L → x.length + 1 ≤ joinN L
  | [], x, h => by simp at h
  | y :: L, x, h => by
    rw [joinN]
    rcases List.mem_cons.mp h with rfl | h
    · omega
    · have := joinN_mem L x h; omega
theorem textL_size : ∀ (l : List ByteArray) (x : ByteArray), (textL l x).size = x.size + joinN (l.map (·.data.toList))
  | [], x => rfl
  | a :: l, x => by
    have hz : a.data.toList.length = a.size := Array.length_toList
    rw [show textL (a :: l) x = textL l (x ++ ((⟨#[126]⟩ : ByteArray) ++ a)) from rfl, textL_size l, ByteArray.size_append, ByteArray.size_append, one_size, List.map_cons, joinN]
    omega
theorem joinN_four : ∀ l : List ByteArray, (∀ x ∈ l, x.size ≤ 4) → joinN (l.map (·.data.toList)) ≤ 5 * l.length
  | [], _ => Nat.le_refl _
  | a :: l, h => by
    have hz : a.data.toList.length = a.size := Array.length_toList
    have h1 := h a (List.mem_cons_self ..)
    have h2 := joinN_four l (fun x hx => h x (List.mem_cons_of_mem _ hx))
    rw [List.map_cons, joinN, List.length_cons]
    omega
theorem same_size {x y : ByteArray} (h : x.toList = y.toList) : x.size = y.size := by
  rw [Lib.toList_data, Lib.toList_data] at h
  rw [dl_inj h]
theorem sch_parts {p b : ByteArray} {l : List ByteArray} (h : isSchT p b l = true) : p.size ≤ 8 ∧ b.size ≤ 36 ∧ l.length ≤ 3 ∧ (∀ x ∈ l, x.size ≤ 4) ∧ signsB b 0 36 = true := by
  simp only [isSchT, Bool.and_eq_true, decide_eq_true_eq, Bool.not_eq_true', List.any_eq_false] at h
  obtain ⟨h1, ⟨h2, h3⟩, h4, h5, h6, h7⟩ := h
  have h8 := h5
  simp only [signsB, Bool.and_eq_true, decide_eq_true_eq] at h8
  refine ⟨by omega, by omega, h6, fun x hx => ?_, h5⟩
  have h9 := h7 x hx
  simp only [Bool.not_eq_true', Bool.not_eq_false, signsB, Bool.and_eq_true, decide_eq_true_eq] at h9
  omega
theorem sch_size {p b : ByteArray} {l : List ByteArray} (h : isSchT p b l = true) : (schT p b l).size ≤ 60 := by
  obtain ⟨h1, h2, h3, h4, _⟩ := sch_parts h
  have h5 := joinN_four l h4
  unfold schT
  rw [textL_size]
  split
  · omega
  · rw [ByteArray.size_append, ByteArray.size_append, one_size]; omega
theorem no_mark {b : ByteArray} (h : 0 < b.data.toList.count 33) : signsB b 0 36 = false := by
  cases hq : signsB b 0 36 with
  | false => rfl
  | true =>
    exfalso
    have hm : (33 : UInt8) ∈ b.data.toList := List.count_pos_iff.mp h
    obtain ⟨j, hj, hv⟩ := List.getElem_of_mem hm
    have hl : b.data.toList.length = b.size := Array.length_toList
    simp only [signsB, Bool.and_eq_true, decide_eq_true_eq] at hq
    have h1 := allS_bt b b.size 0 hq.2 j (Nat.zero_le _) (by omega)
    rw [bt_list b j hj, hv] at h1
    exact absurd h1 (by decide)
def ptZ : ByteArray × ByteArray × List ByteArray × Bool := ((⟨#[]⟩ : ByteArray), (⟨#[]⟩ : ByteArray), [], false)
def ptT (t p b : ByteArray) (l : List ByteArray) : ByteArray × ByteArray × List ByteArray × Bool := if isSchT p b l = true then (if (schT p b l).toList = t.toList then (p, b, l, true) else ptZ) else ptZ
theorem ptT_len (t p b : ByteArray) (l : List ByteArray) : (ptT t p b l).2.2.1.length ≤ 1048576 := by
  unfold ptT
  split
  · next h =>
    split
    · have := (sch_parts h).2.2.1
      show l.length ≤ 1048576
      omega
    · exact Nat.zero_le _
  · exact Nat.zero_le _
theorem spec_j0 (t p b : ByteArray) (l : List ByteArray) (hp : p.size ≤ 1048576) (hb : b.size ≤ 1048576) (hl : l.length ≤ 1048576) (hs : ∀ x ∈ l, x.size ≤ 1048576) (k : Nat) (hk : 7000002 < k) : spec_plParse.j0 k t p b l = some (ptT t p b l) := by
  obtain ⟨k, rfl⟩ : ∃ m, k = m + 1 := ⟨k - 1, by omega⟩
  rw [spec_plParse.j0, spec_good8 p b l hp hb hl hs k (by omega)]
  simp only [Option.bind_some]
  unfold ptT
  by_cases c : isSchT p b l = true
  · rw [if_pos c, if_pos c, spec_txt p b l hp hb hl hs k (by omega)]
    simp only [Option.bind_some]
    by_cases c2 : (schT p b l).toList = t.toList
    · rw [if_pos c2, if_pos c2]
    · rw [if_neg c2, if_neg c2]; rfl
  · rw [if_neg c, if_neg c]; rfl
theorem map_dl {x y : List ByteArray} (h : x.map (·.data.toList) = y.map (·.data.toList)) : x = y := by
  induction x generalizing y with
  | nil => cases y with
    | nil => rfl
    | cons b y => simp at h
  | cons a x ih => cases y with
    | nil => simp at h
    | cons b y =>
      rw [List.map_cons, List.map_cons] at h
      injection h with h1 h2
      rw [dl_inj h1, ih h2]
theorem mk_dl (L : List UInt8) : (⟨L.toArray⟩ : ByteArray).data.toList = L := by simp
theorem mk_size (L : List UInt8) : (⟨L.toArray⟩ : ByteArray).size = L.length := by
  show L.toArray.size = _
  simp
theorem parse_eq (t : ByteArray) (ht : t.size ≤ 1048576) (k : Nat) (hk : 9000000 < k) : ∃ p b l, impl_ParseScheme.f t = some (ptT t p b l) ∧ spec_plParse.f k t = some (ptT t p b l) := by
  have hlt : t.data.toList.length = t.size := Array.length_toList
  have hcut := psT_cut t
  have hsum := cutAt_sum 126 t.data.toList
  rw [← hcut] at hsum
  obtain ⟨P0, ws, hps⟩ : ∃ P0 ws, psT t = P0 :: ws := by
    obtain ⟨h, r, q⟩ := cutAt_ne 126 t.data.toList
    cases hz : psT t with
    | nil => rw [hz, q] at hcut; simp at hcut
    | cons a r => exact ⟨a, r, rfl⟩
  have hl0 : P0.data.toList.length = P0.size := Array.length_toList
  have hmem := hsum
  rw [hps, List.map_cons, joinN, hl0] at hsum
  have hP : P0.size ≤ t.size := by omega
  have hwl : ws.length ≤ t.size := by
    have h1 : ∀ m : List ByteArray, m.length ≤ joinN (m.map (·.data.toList)) := by
      intro m
      induction m with
      | nil => exact Nat.le_refl _
      | cons a m ih => rw [List.map_cons, joinN, List.length_cons]; omega
    have := h1 ws
    omega
  have hws : ∀ x ∈ ws, x.size ≤ 1048576 := fun x hx => by
    have h1 := joinN_mem (ws.map (·.data.toList)) x.data.toList (List.mem_map_of_mem hx)
    have h2 : x.data.toList.length = x.size := Array.length_toList
    omega
  have hrd : rdOf ByteArray.empty (psT t) 0 = P0 := by rw [hps]; rfl
  have hdr : (psT t).drop 1 = ws := by rw [hps]; rfl
  -- what the program answers
  have himpl : ∀ p b, (Lib.cut P0.data.toList [33]).1 = p.data.toList → (Lib.cut P0.data.toList [33]).2.1 = b.data.toList → impl_ParseScheme.f t = some (ptT t p b ws) := by
    intro p b e1 e2
    have hp : (⟨(Lib.cut P0.data.toList [33]).1.toArray⟩ : ByteArray) = p := dl_inj (by rw [mk_dl, e1])
    have hb : (⟨(Lib.cut P0.data.toList [33]).2.1.toArray⟩ : ByteArray) = b := dl_inj (by rw [mk_dl, e2])
    have hsz : p.size ≤ P0.size ∧ b.size ≤ P0.size := by
      have s1 : p.size = (Lib.cut P0.data.toList [33]).1.length := by rw [← hp]; exact mk_size _
      have s2 : b.size = (Lib.cut P0.data.toList [33]).2.1.length := by rw [← hb]; exact mk_size _
      rw [s1, s2]
      rcases idx_split 33 P0.data.toList with ⟨h1, _⟩ | ⟨i, h1, h2, _⟩
      · rw [(lib_cut _ _).1 h1]; simp only [List.length_nil]; omega
      · rw [(lib_cut _ _).2 i h1]; simp only [List.length_take, List.length_drop]; omega
    have hsplit : strings_Split.f t (⟨#[126]⟩ : ByteArray) = some (psT t) := by
      unfold strings_Split.f psT
      rw [if_pos ⟨ht, Nat.le_refl _⟩]
    have hc : strings_Cut.f P0 (⟨#[33]⟩ : ByteArray) = some (p, b, (Lib.cut P0.data.toList [33]).2.2) := by
      unfold strings_Cut.f
      rw [if_pos (by omega)]
      show some ((⟨(Lib.cut P0.data.toList [33]).1.toArray⟩ : ByteArray), (⟨(Lib.cut P0.data.toList [33]).2.1.toArray⟩ : ByteArray), _) = _
      rw [hp, hb]
    unfold impl_ParseScheme.f ptT
    rw [hsplit]
    simp only [Option.bind_some]
    rw [hrd, hc, hdr]
    simp only [Option.bind_some]
    rw [impl_good8 p b ws (by omega) (by omega) (by omega) hws]
    simp only [Option.bind_some]
    by_cases c : isSchT p b ws = true
    · rw [if_pos c, if_pos c, txt_same, spec_txt p b ws (by omega) (by omega) (by omega) hws _ (by omega)]
      simp only [Option.bind_some]
      by_cases c2 : (schT p b ws).toList = t.toList
      · rw [if_pos c2, if_pos c2]
      · rw [if_neg c2, if_neg c2]; rfl
    · rw [if_neg c, if_neg c]; rfl
  by_cases hz : (t.size : Int) > 60
  · have hno : ∀ p b, ptT t p b ws = ptZ := by
      intro p b
      unfold ptT
      by_cases c : isSchT p b ws = true
      · rw [if_pos c, if_neg (fun q => by have := sch_size c; have := same_size q; omega)]
      · rw [if_neg c]
    refine ⟨_, _, ws, himpl ⟨(Lib.cut P0.data.toList [33]).1.toArray⟩ ⟨(Lib.cut P0.data.toList [33]).2.1.toArray⟩ (by rw [mk_dl]) (by rw [mk_dl]), ?_⟩
    rw [hno]
    unfold spec_plParse.f
    rw [if_pos hz]
    rfl
  · -- what the reference answers
    have hspec : ∀ (H : List ByteArray), H.map (·.data.toList) = cutAt 33 P0.data.toList → spec_plParse.f k t = if H.length = 2 then spec_plParse.j0 k t (rdOf ByteArray.empty H 0) (rdOf ByteArray.empty H 1) ws else spec_plParse.j0 k t (rdOf ByteArray.empty H 0) (⟨#[]⟩ : ByteArray) ws := by
      intro H hH
      obtain ⟨R, r1, r2⟩ := spec_split t ht 126 k (by omega)
      have hR : R = psT t := map_dl (by rw [r2, hcut])
      subst hR
      obtain ⟨H', q1, q2⟩ := spec_split P0 (by omega) 33 k (by omega)
      have hH' : H' = H := map_dl (by rw [q2, hH])
      subst hH'
      have hHl : 0 < H'.length := by
        obtain ⟨h, r, q⟩ := cutAt_ne 33 P0.data.toList
        have := congrArg List.length q2
        rw [List.length_map, q, List.length_cons] at this
        omega
      unfold spec_plParse.f
      rw [if_neg hz, show (126 : Int) = ((126 : UInt8).toNat : Int) from rfl, r1]
      simp only [Option.bind_some]
      rw [if_pos (show 0 < ((psT t).length : Int) by rw [hps, List.length_cons]; omega), hrd, show (33 : Int) = ((33 : UInt8).toNat : Int) from rfl, q1]
      simp only [Option.bind_some]
      rw [if_pos (show 0 < (H'.length : Int) by omega), if_pos (show 1 ≤ ((psT t).length : Int) by rw [hps, List.length_cons]; omega), hdr]
      unfold spec_l1OwnS.f
      simp only [Option.bind_some, List.nil_append, List.length_nil]
      rw [if_pos (show 0 + ws.length < 8796093022208 by omega)]
      simp only [Option.bind_some]
      by_cases c : H'.length = 2
      · rw [if_pos c, if_pos (show (H'.length : Int) = 2 by omega), if_pos (show 1 < (H'.length : Int) by omega)]
      · rw [if_neg c, if_neg (show ¬ (H'.length : Int) = 2 by omega)]
    rcases idx_split 33 P0.data.toList with ⟨h1, h2⟩ | ⟨i, h1, h2, h3, h4⟩
    · have e := (lib_cut P0.data.toList 33).1 h1
      refine ⟨P0, (⟨#[]⟩ : ByteArray), ws, himpl _ _ (by rw [e]) (by rw [e]), ?_⟩
      rw [hspec [P0] (by rw [h2]; rfl), if_neg (by simp), show rdOf ByteArray.empty [P0] 0 = P0 from rfl]
      exact spec_j0 t P0 _ ws (by omega) (by decide) (by omega) hws k (by omega)
    · have e := (lib_cut P0.data.toList 33).2 i h1
      obtain ⟨p, hp⟩ : ∃ p : ByteArray, p.data.toList = P0.data.toList.take i := ⟨⟨(P0.data.toList.take i).toArray⟩, mk_dl _⟩
      obtain ⟨b, hb⟩ : ∃ b : ByteArray, b.data.toList = P0.data.toList.drop (i + 1) := ⟨⟨(P0.data.toList.drop (i + 1)).toArray⟩, mk_dl _⟩
      have hpl : p.data.toList.length = p.size := Array.length_toList
      have hbl : b.data.toList.length = b.size := Array.length_toList
      have hps2 : p.size < P0.size := by rw [← hpl, hp, List.length_take]; omega
      have hbs2 : b.size ≤ P0.size := by rw [← hbl, hb, List.length_drop]; omega
      refine ⟨p, b, ws, himpl p b (by rw [e, hp]) (by rw [e, hb]), ?_⟩
      rw [← hp, ← hb] at h3
      rw [← hb] at h4
      rcases h4 with h4 | h4
      · -- a second mark: both answer alike
        obtain ⟨H, hH⟩ : ∃ H : List ByteArray, H.map (·.data.toList) = cutAt 33 P0.data.toList := ⟨(cutAt 33 P0.data.toList).map fun L => ⟨L.toArray⟩, by rw [List.map_map]; simp [Function.comp_def]⟩
        have hHl : H.length = 2 + b.data.toList.count 33 := by
          have := congrArg List.length hH
          rw [List.length_map, h3, List.length_cons, cutAt_len] at this
          omega
        have hH0 : rdOf ByteArray.empty H 0 = p := by
          cases H with
          | nil => simp at hHl; omega
          | cons a r =>
            rw [h3, List.map_cons] at hH
            injection hH with a1 a2
            exact dl_inj a1
        rw [hspec H hH, if_neg (by omega), hH0, spec_j0 t p _ ws (by omega) (by decide) (by omega) hws k (by omega)]
        congr 1
        have z1 : ptT t p b ws = ptZ := by
          unfold ptT
          rw [if_neg (fun q => absurd (sch_parts q).2.2.2.2 (by rw [no_mark h4]; decide))]
        rw [z1]
        unfold ptT
        by_cases c : isSchT p (⟨#[]⟩ : ByteArray) ws = true
        · rw [if_pos c, if_neg (fun q => ?_)]
          have h6 := same_size q
          unfold schT at h6
          rw [if_pos ((toList_iff _).2 rfl), textL_size] at h6
          omega
        · rw [if_neg c]
      · have hc1 : cutAt 33 b.data.toList = [b.data.toList] := by
          rcases idx_split 33 b.data.toList with ⟨_, y2⟩ | ⟨i', y1, y2, y3, _⟩
          · exact y2
          · exfalso
            have := cutAt_len 33 b.data.toList
            rw [h4, y3, List.length_cons] at this
            obtain ⟨h', r', q'⟩ := cutAt_ne 33 (b.data.toList.drop (i' + 1))
            rw [q', List.length_cons] at this
            omega
        rw [hspec [p, b] (by rw [h3, hc1]; rfl), if_pos (show [p, b].length = 2 from rfl), show rdOf ByteArray.empty [p, b] 0 = p from rfl, show rdOf ByteArray.empty [p, b] 1 = b from rfl]
        exact spec_j0 t p b ws (by omega) (by omega) (by omega) hws k (by omega)
theorem markSch (p b : ByteArray) (l : List ByteArray) (hl : l.length ≤ 1048576) (k : Nat) (hk : 1048700 < k) : laws_markScheme.f k p b l 1 = some (1 + (l.length : Int), upS l.length 1) := by
  unfold laws_markScheme.f
  rw [markStr l hl _ (by omega)]
  rfl
theorem heldSch (p b : ByteArray) (n : Nat) (hn : n ≤ 1048576) (k : Nat) (hk : 1048700 < k) : laws_heldScheme.f k p b (upS n 1) 1 = some (1 + (n : Int)) := by
  unfold laws_heldScheme.f
  rw [heldStr n hn _ (by omega)]
  simp only [Option.bind_some]
  rw [if_neg (by omega)]
theorem FnExactParseScheme (t : ByteArray) (_ : t.size ≤ maxLen) : ∃ k, laws_FnExactParseScheme.f k t = some true := by
  refine ⟨9000003, ?_⟩
  unfold laws_FnExactParseScheme.f
  by_cases hz : (t.size : Int) > 1048576
  · rw [if_pos hz]
  rw [if_neg hz]
  obtain ⟨p, b, l, h1, h2⟩ := parse_eq t (by omega) 9000003 (by omega)
  have ht := ptT_len t p b l
  unfold spec_ParseScheme.f
  rw [h1, h2]
  simp only [Option.bind_some]
  rw [eq8 _ _ _ ht _ (by omega)]
  simp only [Option.bind_some]
  rw [if_pos trivial, show (9000003 : Nat) = 9000002 + 1 from rfl, laws_FnExactParseScheme.j0, bne_self_eq_false, if_neg (by decide), markSch _ _ _ ht _ (by omega)]
  simp only [Option.bind_some]
  rw [heldSch _ _ _ ht _ (by omega)]
  simp only [Option.bind_some]
  rw [if_neg (by omega), if_pos trivial, h1]
  simp only [Option.bind_some]
  rw [eq8 _ _ _ ht _ (by omega)]
  simp only [Option.bind_some]
  rw [if_pos trivial, show (9000002 : Nat) = 9000001 + 1 from rfl, laws_FnExactParseScheme.j1, bne_self_eq_false, if_neg (by decide), heldSch _ _ _ ht _ (by omega)]
  simp only [Option.bind_some]
  rw [if_neg (by omega), if_pos trivial]

end Go.Proofs.YtmplmfoacnnieaaDoor.Pure
