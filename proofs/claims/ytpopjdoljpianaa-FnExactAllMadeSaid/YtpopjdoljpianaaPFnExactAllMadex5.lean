-- Laid by a program of this session (wip/myprint.py) out of the translation; some contracts in it are the session's own.
import Derived.Test.YtpopjdoljpianaaPFnExactAllMadex0
import Derived.Test.YtpopjdoljpianaaPFnExactAllMadex3
import Derived.Test.YtpopjdoljpianaaPFnExactAllMadex4
namespace Go.Proofs.Ytpopjdoljpianaa.PFnExactAllMade
open Go.RowKit Go.Proofs.YtpopjdoljpianaaW.PrintWords Go.Proofs.YtpopjdoljpianaaW.PrintLast Go.Proofs.YtpopjdoljpianaaW.PrintMore
attribute [local go_sem] max2_int min2_int max_two min_two max_three min_three max_four min_four   -- for this text's walks alone
set_option linter.unusedVariables false
set_option linter.unusedSimpArgs false

/-! ### impl_AllMade: function 29 -/
-- --making --rounds
-- included closures2
def roundsG {σ : Type} (g : Int → σ → Prop) (h : Int → σ → σ × Bool) : List Int → σ → Prop
  | [], _ => True
  | s :: l, st => g s st ∧ ((h s st).2 = true → roundsG g h l (h s st).1)
def dfsG {σ : Type} (G : σ → Prop) (f : σ → List Int → Int → σ × Bool) (ds : ByteArray) : Nat → Nat → List Int → Int × Int × Int → σ → Prop
  | 0, _, _, _, st => G st
  | d + 1, i, pre, r, st => roundsG (fun s st => dfsG G f ds d (i + 1) (pre ++ [s]) (onT r s (bt ds (i : Int))) st) (fun s st => dfsT f ds d (i + 1) (pre ++ [s]) (onT r s (bt ds (i : Int))) st) [42, 43, 45, 0] st
set_option maxHeartbeats 8000000 in
set_option maxRecDepth 100000 in
theorem choose_leaf2 {σ : Type} (ds : ByteArray) (Bd Be Br Bs Bc m g : Nat) (caps : Array Value) (I : (Nat → Prop) → σ → World → Prop) (f : σ → List Int → Int → σ × Bool) (G : σ → Prop)
    (eg : ∀ args w, (callFunc g args).run Try.prog w = .ok (.enter g args) w)
    (hgo : ∀ (P : Nat → Prop) (w : World) (sg : List Int) (st : σ) (v : Int), (∀ k, P k → k < w.heap.size) → P Br → RowB w Br m sg → I P st w → G st → Calls Try.prog g (#[.slice (some ⟨Br, 0, none⟩) m m, .int .i64 v] ++ caps) w fun e w' => e = .returned (.bool (f st sg v).2) ∧ I P (f st sg v).1 w' ∧ BelowP P w w')
    (hmono : ∀ (P Q : Nat → Prop) (st : σ) (w : World), (∀ k, Q k → P k ∨ w.heap.size ≤ k) → I P st w → I Q st w)
    (hstab : ∀ (P : Nat → Prop) (st : σ) (w w' : World), I P st w → (∀ k, k < w.heap.size → k ≠ Br → w'.heap[k]? = w.heap[k]?) → w.heap.size ≤ w'.heap.size → I P st w')
    (P : Nat → Prop) (w : World) (row : List Int) (r1 r2 r3 : Int) (st : σ) (hP : ∀ k, P k → k < w.heap.size) (pd : P Bd) (pe : P Be) (pr : P Br) (ps : P Bs) (pc : P Bc) (hE : EnvC Bd Be Br Bs Bc m g caps ds w) (hR : RowB w Br m row) (hI : I P st w) (hG : G st) :
    Calls Try.prog 78 #[.int .i64 (ds.size : Int), .agg #[.int .i64 r1, .int .i64 r2, .int .i64 r3], .pointer (some ⟨Bd, 0, none⟩), .pointer (some ⟨Be, 0, none⟩), .pointer (some ⟨Bs, 0, none⟩), .pointer (some ⟨Bc, 0, none⟩)] w fun e w' =>
      e = .returned (.bool (f st row (valT (r1, r2, r3))).2) ∧ I P (f st row (valT (r1, r2, r3))).1 w' ∧ BelowP P w w' := by
  have hu := Try.underlying41
  have HE := Aside0.mk hE
  have HR := Aside0.mk hR
  have HI := Aside0.mk hI
  have HGG := Aside0.mk hG
  clear hG
  have HP := Aside0.mk hP
  have HPS := Aside0.mk (And.intro pd (And.intro pe (And.intro pr (And.intro ps pc))))
  clear hE hR hI hP pd pe pr ps pc
  have HGO := Aside0.mk hgo
  have HST := Aside0.mk hstab
  have HMO := Aside0.mk hmono
  clear hgo hstab hmono
  go_enter Try.func78, Try.ntmps78
  go_wp2_with ((with_reducible refine gate_dst (N := 7) rfl ?_); refine box_event ?hg (N := 7) ?hd (cs := #[.int .i64 r1, .int .i64 r2, .int .i64 r3]) (t := 41) ?hr ?_; (case hd => rfl); (case hg => rfl); (case hr => first | (go_simp; done) | (go_simp; rfl)); intro gb hg w2 hbox hb; have HB2 := Aside0.mk hb; have HBP := Aside0.mk (belowP_of hb HP.out); have HE2 := Aside0.mk (HE.out.keepP HBP.out HPS.out.1 HPS.out.2.1 HPS.out.2.2.2.1 HPS.out.2.2.2.2); have hcd := HE2.out.d; have hce := HE2.out.e; have hcs := HE2.out.s; have hb0 : w2.cell? ⟨gb, 0, none⟩ = some (.int .i64 r1) := (blk_cell hbox 0).trans rfl; have hb1 : w2.cell? ⟨gb, 1, none⟩ = some (.int .i64 r2) := (blk_cell hbox 1).trans rfl; have hb2 : w2.cell? ⟨gb, 2, none⟩ = some (.int .i64 r3) := (blk_cell hbox 2).trans rfl; have HG := Aside0.mk hg; have HBX := Aside0.mk hbox; clear hb hg hbox)
  have HR2 := Aside0.mk (rowB_block HR.out (HBP.out.block _ HPS.out.2.2.1))
  have HI1 := Aside0.mk (HMO.out P (fun k => P k ∨ k = gb) st w (fun k hk => hk.imp id (fun e => by rw [e, HG.out]; exact Nat.le_refl _)) HI.out)
  have HP2 := Aside0.mk (show ∀ k, (P k ∨ k = gb) → k < w2.heap.size from fun k hk => hk.elim (fun h => Nat.lt_of_lt_of_le (HP.out k h) HB2.out.size) (fun e => by rw [e]; exact blk_lt HBX.out))
  go_region_held3 (fun w' => w'.cell? ⟨Be, 0, none⟩ = some (.func (.func g) #[] caps) ∧ w'.cell? ⟨Bs, 0, none⟩ = some (.slice (some ⟨Br, 0, none⟩) m m) ∧ w'.cell? ⟨gb, 0, none⟩ = some (.int .i64 r1) ∧ w'.cell? ⟨gb, 1, none⟩ = some (.int .i64 r2) ∧ w'.cell? ⟨gb, 2, none⟩ = some (.int .i64 r3))
    (first | exact ⟨hce, hcs, hb0, hb1, hb2⟩ | exact hS3 | exact hS4)
    (first | (go_at_call 47; refine (impl_reckoner_value.calls r1 r2 r3 _ _ (val_some_ (r1, r2, r3))).mono ?_; rintro e w3 ⟨rfl, hb3⟩; have hb3' : Below w2.heap.size w2 w3 := ⟨hb3.os, hb3.tape, hb3.output, hb3.size, hb3.block⟩; clear hb3; have hS3 := And.intro (below_cell_ hb3' hce) (And.intro (below_cell_ hb3' hcs) (And.intro (below_cell_ hb3' hb0) (And.intro (below_cell_ hb3' hb1) (below_cell_ hb3' hb2)))); have HB3 := Aside0.mk hb3'; clear hb3') | (go_at_fn g; refine (HGO.out (fun k => P k ∨ k = gb) w3 row st _ (fun k hk => Nat.lt_of_lt_of_le (HP2.out k hk) HB3.out.size) (.inl HPS.out.2.2.1) (rowB_below HR2.out HB3.out) (HST.out _ st w w3 HI1.out (fun k hk _ => ((below_then HB2.out HB2.out.size HB3.out).block k hk)) (Nat.le_trans HB2.out.size HB3.out.size)) HGG.out).mono ?_; rintro e w4 ⟨rfl, hi4, hb4⟩; have hS4 := And.intro (belowP_cell_ hb4 (.inl HPS.out.2.1) hS3.1) (And.intro (belowP_cell_ hb4 (.inl HPS.out.2.2.2.1) hS3.2.1) (And.intro (belowP_cell_ hb4 (.inr rfl) hS3.2.2.1) (And.intro (belowP_cell_ hb4 (.inr rfl) hS3.2.2.2.1) (belowP_cell_ hb4 (.inr rfl) hS3.2.2.2.2)))); have HI4 := Aside0.mk hi4; have HB4 := Aside0.mk hb4; clear hi4 hb4))
  go_wp2
  go_ret
  exact ⟨rfl, HMO.out _ P _ w4 (fun k hk => .inl (.inl hk)) HI4.out, (HBP.out.trans ((belowP_of HB3.out (fun k hk => HP2.out k (.inl hk))))).trans (HB4.out.mono (fun k hk => .inl hk))⟩
set_option maxHeartbeats 8000000 in
set_option maxRecDepth 100000 in
theorem choose_calls2 {σ : Type} (ds : ByteArray) (hds : ds.size ≤ 1000) (Bd Be Br Bs Bc m g : Nat) (caps : Array Value) (I : (Nat → Prop) → σ → World → Prop) (f : σ → List Int → Int → σ × Bool) (G : σ → Prop)
    (hm : m + 1 = ds.size) (hne : Bd ≠ Br ∧ Be ≠ Br ∧ Bs ≠ Br ∧ Bc ≠ Br)
    (eg : ∀ args w, (callFunc g args).run Try.prog w = .ok (.enter g args) w)
    (hgo : ∀ (P : Nat → Prop) (w : World) (sg : List Int) (st : σ) (v : Int), (∀ k, P k → k < w.heap.size) → P Br → RowB w Br m sg → I P st w → G st → Calls Try.prog g (#[.slice (some ⟨Br, 0, none⟩) m m, .int .i64 v] ++ caps) w fun e w' => e = .returned (.bool (f st sg v).2) ∧ I P (f st sg v).1 w' ∧ BelowP P w w')
    (hmono : ∀ (P Q : Nat → Prop) (st : σ) (w : World), (∀ k, Q k → P k ∨ w.heap.size ≤ k) → I P st w → I Q st w)
    (hstab : ∀ (P : Nat → Prop) (st : σ) (w w' : World), I P st w → (∀ k, k < w.heap.size → k ≠ Br → w'.heap[k]? = w.heap[k]?) → w.heap.size ≤ w'.heap.size → I P st w') :
    ∀ (d p : Nat) (x : Int) (P : Nat → Prop) (w : World) (row pre : List Int) (r1 r2 r3 : Int) (st : σ), p + 1 + d = ds.size → x = (p : Int) + 1 → pre.length = p → row.take p = pre → (∀ k, P k → k < w.heap.size) → P Bd ∧ P Be ∧ P Br ∧ P Bs ∧ P Bc → EnvC Bd Be Br Bs Bc m g caps ds w → RowB w Br m row → I P st w → dfsG G f ds d (p + 1) pre (r1, r2, r3) st →
    Calls Try.prog 78 #[.int .i64 x, .agg #[.int .i64 r1, .int .i64 r2, .int .i64 r3], .pointer (some ⟨Bd, 0, none⟩), .pointer (some ⟨Be, 0, none⟩), .pointer (some ⟨Bs, 0, none⟩), .pointer (some ⟨Bc, 0, none⟩)] w fun e w' =>
      e = .returned (.bool (dfsT f ds d (p + 1) pre (r1, r2, r3) st).2) ∧ I P (dfsT f ds d (p + 1) pre (r1, r2, r3) st).1 w' ∧ BelowP (fun k => P k ∧ k ≠ Br) w w' ∧ ∃ row' : List Int, RowB w' Br m row' ∧ row'.take p = pre
  | 0, p, x, P, w, row, pre, r1, r2, r3, st, hpd, hx, hpl, htk, hP, hPs, hE, hR, hI, hG => by
    have e1 : x = (ds.size : Int) := by omega
    have e2 : row = pre := by rw [← htk, List.take_of_length_le (by have := hR.2.1; omega)]
    subst e1 e2
    refine (choose_leaf2 ds Bd Be Br Bs Bc m g caps I f G eg hgo hmono hstab P w row r1 r2 r3 st hP hPs.1 hPs.2.1 hPs.2.2.1 hPs.2.2.2.1 hPs.2.2.2.2 hE hR hI hG).mono ?_
    rintro e w' ⟨rfl, h1, h2⟩
    exact ⟨rfl, h1, h2.mono (fun k hk => hk.1), row, rowB_block hR (h2.block _ hPs.2.2.1), htk⟩
  | d + 1, p, x, P, w, row, pre, r1, r2, r3, st, hpd, hx, hpl, htk, hP, hPs, hE, hR, hI, hG => by
    have IH := Aside0.mk (choose_calls2 ds hds Bd Be Br Bs Bc m g caps I f G hm hne eg hgo hmono hstab d)
    subst hx
    have hu := Try.underlying41
    have HE := Aside0.mk hE
    have HR := Aside0.mk hR
    have HI := Aside0.mk hI
    have HGG := Aside0.mk (show roundsG (fun s st => dfsG G f ds d (p + 1 + 1) (pre ++ [s]) (onT (r1, r2, r3) s (bt ds ((p + 1 : Nat) : Int))) st) (fun s st => dfsT f ds d (p + 1 + 1) (pre ++ [s]) (onT (r1, r2, r3) s (bt ds ((p + 1 : Nat) : Int))) st) (sgsT.drop 0) st from hG)
    clear hG
    have HP := Aside0.mk hP
    have HPS := Aside0.mk hPs
    have HT := Aside0.mk htk
    have HL := Aside0.mk hpl
    have HD := Aside0.mk hpd
    have HNE := Aside0.mk hne
    have HM := Aside0.mk hm
    have HST := Aside0.mk hstab
    have HMO := Aside0.mk hmono
    have hlt : ((p : Int) + 1) < (ds.size : Int) := by omega
    have hnq : (((p : Int) + 1) == (ds.size : Int)) = false := beq_eq_false_iff_ne.2 (by omega)
    have hp0 : (0 : Int) ≤ (p : Int) := by omega
    have hp00 : (0 : Int) ≤ (p : Int) + 1 := by omega
    have hwr : IntKind.i64.wrap ((p : Int) + 1 + 1) = (p : Int) + 1 + 1 := by unfold IntKind.wrap; simp [IntKind.bits, IntKind.signed]; omega
    have hpm : (p : Int) < (m : Int) := by omega
    have hp1 : (p : Int) ≤ 1000 := by omega
    clear hE hR hI hP hPs htk hpl hpd hne hm hgo hstab hmono hds
    go_enter Try.func78, Try.ntmps78
    go_wp2_with (first | ((with_reducible refine gate_dst (N := 7) rfl ?_); refine box_event ?hg (N := 7) ?hd (cs := #[.int .i64 r1, .int .i64 r2, .int .i64 r3]) (t := 41) ?hr ?_; (case hd => rfl); (case hg => rfl); (case hr => first | (go_simp; done) | (go_simp; rfl)); intro gb hg w2 hbox hb; have HB2 := Aside0.mk hb; have HE2 := Aside0.mk (HE.out.keepP (belowP_of hb HP.out) HPS.out.1 HPS.out.2.1 HPS.out.2.2.2.1 HPS.out.2.2.2.2); have hcd := HE2.out.d; have HG := Aside0.mk hg; have HBX := Aside0.mk hbox; clear hb hg hbox) | ((with_reducible refine gate_dst (N := 20) rfl ?_); refine lit_event_ ?hg (N := 20) ?hd (cs := #[.int .u8 42, .int .u8 43, .int .u8 45, .int .u8 0]) (t := 5) (fun g => .slice (some ⟨g, 0, none⟩) 4 4) ?hr ?_; (case hd => rfl); (case hg => rfl); (case hr => first | (go_simp; done) | (go_simp; rfl)); intro gl hg w3 hbox hb; have HB3 := Aside0.mk hb; have HGL := Aside0.mk hg; have HBL := Aside0.mk hbox; clear hb hg hbox))
    have HB23 := Aside0.mk (below_then HB2.out HB2.out.size HB3.out)
    have HP3 := Aside0.mk (show ∀ k, (P k ∨ k = gb ∨ k = gl) → k < w3.heap.size from fun k hk => by
      rcases hk with h | h | h
      · exact Nat.lt_of_lt_of_le (HP.out k h) HB23.out.size
      · rw [h]; exact Nat.lt_of_lt_of_le (blk_lt HBX.out) HB3.out.size
      · rw [h]; exact blk_lt HBL.out)
    have HE3 := Aside0.mk (HE.out.keepP (belowP_of HB23.out HP.out) HPS.out.1 HPS.out.2.1 HPS.out.2.2.2.1 HPS.out.2.2.2.2)
    have HBX3 := Aside0.mk (blk_below HBX.out HB3.out)
    have HR3 := Aside0.mk (rowB_below HR.out HB23.out)
    have HI3 := Aside0.mk (HST.out (fun k => P k ∨ k = gb ∨ k = gl) st w w3 (HMO.out P _ st w (fun k hk => by
      rcases hk with h | h | h
      · exact .inl h
      · exact .inr (by rw [h, HG.out]; exact Nat.le_refl _)
      · exact .inr (by rw [h, HGL.out]; exact HB2.out.size)) HI.out) (fun k hk _ => HB23.out.block k hk) HB23.out.size)
    have HNB := Aside0.mk (show gb ≠ Br ∧ gl ≠ Br from ⟨fun e => by have := HP.out Br HPS.out.2.2.1; have := HG.out; omega, fun e => by have := HP.out Br HPS.out.2.2.1; have := HGL.out; have := HB2.out.size; omega⟩)
    clear HE2 HE hcd HR HI
    go_loopg [22] 4 (fun dd v22 w' => ∃ (j : Nat) (st' : σ) (row' : List Int), v22 = .int .i64 j ∧ Aside0 (j + dd = 4) ∧ Aside0 (roundsT (fun s st => dfsT f ds d (p + 1 + 1) (pre ++ [s]) (onT (r1, r2, r3) s (bt ds ((p + 1 : Nat) : Int))) st) (sgsT.drop j) st' = dfsT f ds (d + 1) (p + 1) pre (r1, r2, r3) st) ∧ Aside0 (roundsG (fun s st => dfsG G f ds d (p + 1 + 1) (pre ++ [s]) (onT (r1, r2, r3) s (bt ds ((p + 1 : Nat) : Int))) st) (fun s st => dfsT f ds d (p + 1 + 1) (pre ++ [s]) (onT (r1, r2, r3) s (bt ds ((p + 1 : Nat) : Int))) st) (sgsT.drop j) st') ∧ Aside0 (RowB w' Br m row' ∧ row'.take p = pre) ∧ Aside0 (I (fun k => P k ∨ k = gb ∨ k = gl) st' w') ∧ Aside0 (BelowP (fun k => (P k ∨ k = gb ∨ k = gl) ∧ k ≠ Br) w3 w'))
    case atStart => exact ⟨0, st, row, rfl, ⟨rfl⟩, ⟨rfl⟩, ⟨HGG.out⟩, ⟨HR3.out, HT.out⟩, HI3, ⟨BelowP.refl _ _⟩⟩
    case round =>
      obtain ⟨j, st', row', rfl, HJ, HQ, HGJ, HRW, HIW, HBW⟩ := hrel
      cases gk with
      | zero =>
        obtain rfl : j = 4 := HJ.out
        go_wp2
        go_ret
        refine ⟨by rw [← HQ.out]; rfl, by rw [← HQ.out]; exact HMO.out _ P st' _ (fun k hk => .inl (.inl hk)) HIW.out, (belowP_of HB23.out (fun k hk => HP.out k hk.1)).trans (HBW.out.mono (fun k hk => ⟨.inl hk.1, hk.2⟩)), row', HRW.out.1, HRW.out.2⟩
      | succ gk =>
        have hj4 : j < 4 := by have := HJ.out; omega
        have hj4i : (j : Int) < 4 := by omega
        have hj0 : (0 : Int) ≤ (j : Int) := by omega
        obtain ⟨s, hdr, hcj⟩ := sgs_at_ j hj4
        have HDR := Aside0.mk hdr
        have hcell : wr.cell? ⟨gl, j, none⟩ = some (.int .u8 s) := (blk_cell ((HBW.out.block gl ⟨.inr (.inr rfl), HNB.out.2⟩).trans HBL.out) j).trans hcj
        obtain ⟨o1, o2, o3, ho⟩ : ∃ o1 o2 o3, onT (r1, r2, r3) s (bt ds ((p : Int) + 1)) = (o1, o2, o3) := ⟨_, _, _, rfl⟩
        have HON := Aside0.mk (show impl_reckoner_on.f r1 r2 r3 s (bt ds ((p : Int) + 1)) = some (o1, o2, o3) by have := on_some_ (r1, r2, r3) s (bt ds ((p : Int) + 1)); rw [ho] at this; exact this)
        have hpn : p + 1 < ds.size := by have := HD.out; omega
        have hbt : ((ds[p + 1]'hpn).toNat : Int) = bt ds ((p : Int) + 1) := by
          unfold bt
          have h1 : ((p : Int) + 1).toNat = p + 1 := by omega
          rw [dif_pos (by rw [h1]; exact hpn)]
          simp only [h1]
        have HGS := Aside0.mk (show roundsG (fun s st => dfsG G f ds d (p + 1 + 1) (pre ++ [s]) (onT (r1, r2, r3) s (bt ds ((p + 1 : Nat) : Int))) st) (fun s st => dfsT f ds d (p + 1 + 1) (pre ++ [s]) (onT (r1, r2, r3) s (bt ds ((p + 1 : Nat) : Int))) st) (s :: sgsT.drop (j + 1)) st' from by rw [← hdr]; exact HGJ.out)
        have HG1 := Aside0.mk (show dfsG G f ds d (p + 1 + 1) (pre ++ [s]) (o1, o2, o3) st' from by
          have q : dfsG G f ds d (p + 1 + 1) (pre ++ [s]) (onT (r1, r2, r3) s (bt ds ((p + 1 : Nat) : Int))) st' := HGS.out.1
          rw [show ((p + 1 : Nat) : Int) = (p : Int) + 1 from rfl, ho] at q
          exact q)
        have HON2 := Aside0.mk (show impl_reckoner_on.f r1 r2 r3 s ((ds[p + 1]'hpn).toNat : Int) = some (o1, o2, o3) by rw [hbt]; exact HON.out)
        clear hbt
        obtain ⟨st2, b2, hres⟩ : ∃ st2 b2, dfsT f ds d (p + 1 + 1) (pre ++ [s]) (o1, o2, o3) st' = (st2, b2) := ⟨_, _, rfl⟩
        have HRES := Aside0.mk (show dfsT f ds d (p + 1 + 1) (pre ++ [s]) (onT (r1, r2, r3) s (bt ds ((p + 1 : Nat) : Int))) st' = (st2, b2) by rw [show ((p + 1 : Nat) : Int) = (p : Int) + 1 from rfl, ho]; exact hres)
        have HREC := Aside0.mk (show ∀ (x : Int) (W : World), x = ((p + 1 : Nat) : Int) + 1 → EnvC Bd Be Br Bs Bc m g caps ds W → RowB W Br m (row'.set p s) → I (fun k => P k ∨ k = gb ∨ k = gl) st' W → w3.heap.size ≤ W.heap.size → _ from fun x W hx h1 h2 h3 h4 => by
          have := IH.out (p + 1) x (fun k => P k ∨ k = gb ∨ k = gl) W (row'.set p s) (pre ++ [s]) o1 o2 o3 st' (by have := HD.out; omega) hx (by rw [List.length_append, HL.out]; rfl) (by rw [take_set_ row' p s (by have := HRW.out.1.2.1; omega), HRW.out.2]) (fun k hk => Nat.lt_of_lt_of_le (HP3.out k hk) h4) ⟨.inl HPS.out.1, .inl HPS.out.2.1, .inl HPS.out.2.2.1, .inl HPS.out.2.2.2.1, .inl HPS.out.2.2.2.2⟩ h1 h2 h3 HG1.out
          rw [hres] at this
          exact this)
        have HE5 := Aside0.mk ((HE3.out.keepP HBW.out ⟨.inl HPS.out.1, HNE.out.1⟩ ⟨.inl HPS.out.2.1, HNE.out.2.1⟩ ⟨.inl HPS.out.2.2.2.1, HNE.out.2.2.1⟩ ⟨.inl HPS.out.2.2.2.2, HNE.out.2.2.2⟩))
        have hcsr := HE5.out.s
        have HB5 := Aside0.mk (belowP_set (P := fun k => (P k ∨ k = gb ∨ k = gl) ∧ k ≠ Br) (BelowP.refl _ wr) (b := Br) (fun h => h.2 rfl) p (.int .u8 s))
        have HBW5 := Aside0.mk (HBW.out.trans HB5.out)
        have HE6 := Aside0.mk ((HE3.out.keepP HBW5.out ⟨.inl HPS.out.1, HNE.out.1⟩ ⟨.inl HPS.out.2.1, HNE.out.2.1⟩ ⟨.inl HPS.out.2.2.2.1, HNE.out.2.2.1⟩ ⟨.inl HPS.out.2.2.2.2, HNE.out.2.2.2⟩))
        have HBX5 := Aside0.mk ((HBW5.out.block gb ⟨.inr (.inl rfl), HNB.out.1⟩).trans HBX3.out)
        have hbr := HRW.out.1.2.2.1 p (by omega)
        have hfr := HRW.out.1.2.2.2 p (by omega)
        have HR5 := Aside0.mk (rowB_set HRW.out.1 p (by omega) s)
        have HI5 := Aside0.mk (HST.out _ st' wr (wr.setCell ⟨Br, p, none⟩ (.int .u8 s)) HIW.out (fun k _ hk => Below.heap_setCell wr _ _ k (show k ≠ Br from hk)) (by simp [World.setCell]))
        have hcd5 := HE6.out.d
        have hcc5 := HE6.out.c
        have hg0 := (blk_cell HBX5.out 0).trans (show _ = some (Value.int .i64 r1) from rfl)
        have hg1 := (blk_cell HBX5.out 1).trans (show _ = some (Value.int .i64 r2) from rfl)
        have hg2 := (blk_cell HBX5.out 2).trans (show _ = some (Value.int .i64 r3) from rfl)
        clear hres ho hdr hcj
        have HP5 := Aside0.mk (show ∀ k, (P k ∨ k = gb ∨ k = gl) → k < (wr.setCell ⟨Br, p, none⟩ (.int .u8 s)).heap.size from fun k hk => Nat.lt_of_lt_of_le (HP3.out k hk) HBW5.out.size)
        cases b2 with
        | false =>
          go_wp2
          go_region_held3 (fun w' => w'.cell? ⟨Bc, 0, none⟩ = some (.func (.func 78) #[] #[.pointer (some ⟨Bd, 0, none⟩), .pointer (some ⟨Be, 0, none⟩), .pointer (some ⟨Bs, 0, none⟩), .pointer (some ⟨Bc, 0, none⟩)]) ∧ w'.cell? ⟨Bd, 0, none⟩ = some (.string ds) ∧ w'.cell? ⟨gb, 0, none⟩ = some (.int .i64 r1) ∧ w'.cell? ⟨gb, 1, none⟩ = some (.int .i64 r2) ∧ w'.cell? ⟨gb, 2, none⟩ = some (.int .i64 r3))
            (first | exact ⟨hcc5, hcd5, hg0, hg1, hg2⟩ | exact hS6 | exact hS7)
            (first | (go_at_call 46; refine (impl_reckoner_on.calls r1 r2 r3 s _ o1 o2 o3 _ HON2.out).mono ?_; rintro e w6 ⟨rfl, hb6⟩; have hb6' : Below (wr.setCell ⟨Br, p, none⟩ (.int .u8 s)).heap.size (wr.setCell ⟨Br, p, none⟩ (.int .u8 s)) w6 := ⟨hb6.os, hb6.tape, hb6.output, hb6.size, hb6.block⟩; clear hb6; have hS6 := And.intro (below_cell_ hb6' hcc5) (And.intro (below_cell_ hb6' hcd5) (And.intro (below_cell_ hb6' hg0) (And.intro (below_cell_ hb6' hg1) (below_cell_ hb6' hg2)))); have HB6 := Aside0.mk hb6'; clear hb6') | (go_at_call 78; refine (HREC.out ((p : Int) + 1 + 1) w6 rfl (HE6.out.keepP (belowP_of HB6.out HP5.out) (.inl HPS.out.1) (.inl HPS.out.2.1) (.inl HPS.out.2.2.2.1) (.inl HPS.out.2.2.2.2)) (rowB_below HR5.out HB6.out) (HST.out _ st' _ w6 HI5.out (fun k hk _ => HB6.out.block k hk) HB6.out.size) (Nat.le_trans HBW5.out.size HB6.out.size)).mono ?_; rintro e w7 ⟨rfl, hi7, hb7, row7, hr7, ht7⟩; have hS7 := And.intro (belowP_cell_ hb7 ⟨.inl HPS.out.2.2.2.2, HNE.out.2.2.2⟩ hS6.1) (And.intro (belowP_cell_ hb7 ⟨.inl HPS.out.1, HNE.out.1⟩ hS6.2.1) (And.intro (belowP_cell_ hb7 ⟨.inr (.inl rfl), HNB.out.1⟩ hS6.2.2.1) (And.intro (belowP_cell_ hb7 ⟨.inr (.inl rfl), HNB.out.1⟩ hS6.2.2.2.1) (belowP_cell_ hb7 ⟨.inr (.inl rfl), HNB.out.1⟩ hS6.2.2.2.2)))); have HI7 := Aside0.mk hi7; have HB7 := Aside0.mk hb7; have HR7 := Aside0.mk hr7; have HT7 := Aside0.mk ht7; clear hi7 hb7 hr7 ht7))
          have HW7 := Aside0.mk ((HBW5.out.trans (belowP_of HB6.out (fun k hk => HP5.out k hk.1))).trans HB7.out)
          have HTK := Aside0.mk (show row7.take p = pre from take_less_ HT7.out HL.out)
          have HF := Aside0.mk (HQ.out.symm.trans ((congrArg (fun l => roundsT _ l st') HDR.out).trans (roundsT_no_ HRES.out)))
          go_wp2
          go_ret
          refine ⟨by rw [HF.out]; rfl, by rw [HF.out]; exact HMO.out _ P st2 _ (fun k hk => .inl (.inl hk)) HI7.out, (belowP_of HB23.out (fun k hk => HP.out k hk.1)).trans (HW7.out.mono (fun k hk => ⟨.inl hk.1, hk.2⟩)), row7, HR7.out, HTK.out⟩
        | true =>
          go_wp2
          go_region_held3 (fun w' => w'.cell? ⟨Bc, 0, none⟩ = some (.func (.func 78) #[] #[.pointer (some ⟨Bd, 0, none⟩), .pointer (some ⟨Be, 0, none⟩), .pointer (some ⟨Bs, 0, none⟩), .pointer (some ⟨Bc, 0, none⟩)]) ∧ w'.cell? ⟨Bd, 0, none⟩ = some (.string ds) ∧ w'.cell? ⟨gb, 0, none⟩ = some (.int .i64 r1) ∧ w'.cell? ⟨gb, 1, none⟩ = some (.int .i64 r2) ∧ w'.cell? ⟨gb, 2, none⟩ = some (.int .i64 r3))
            (first | exact ⟨hcc5, hcd5, hg0, hg1, hg2⟩ | exact hS6 | exact hS7)
            (first | (go_at_call 46; refine (impl_reckoner_on.calls r1 r2 r3 s _ o1 o2 o3 _ HON2.out).mono ?_; rintro e w6 ⟨rfl, hb6⟩; have hb6' : Below (wr.setCell ⟨Br, p, none⟩ (.int .u8 s)).heap.size (wr.setCell ⟨Br, p, none⟩ (.int .u8 s)) w6 := ⟨hb6.os, hb6.tape, hb6.output, hb6.size, hb6.block⟩; clear hb6; have hS6 := And.intro (below_cell_ hb6' hcc5) (And.intro (below_cell_ hb6' hcd5) (And.intro (below_cell_ hb6' hg0) (And.intro (below_cell_ hb6' hg1) (below_cell_ hb6' hg2)))); have HB6 := Aside0.mk hb6'; clear hb6') | (go_at_call 78; refine (HREC.out ((p : Int) + 1 + 1) w6 rfl (HE6.out.keepP (belowP_of HB6.out HP5.out) (.inl HPS.out.1) (.inl HPS.out.2.1) (.inl HPS.out.2.2.2.1) (.inl HPS.out.2.2.2.2)) (rowB_below HR5.out HB6.out) (HST.out _ st' _ w6 HI5.out (fun k hk _ => HB6.out.block k hk) HB6.out.size) (Nat.le_trans HBW5.out.size HB6.out.size)).mono ?_; rintro e w7 ⟨rfl, hi7, hb7, row7, hr7, ht7⟩; have hS7 := And.intro (belowP_cell_ hb7 ⟨.inl HPS.out.2.2.2.2, HNE.out.2.2.2⟩ hS6.1) (And.intro (belowP_cell_ hb7 ⟨.inl HPS.out.1, HNE.out.1⟩ hS6.2.1) (And.intro (belowP_cell_ hb7 ⟨.inr (.inl rfl), HNB.out.1⟩ hS6.2.2.1) (And.intro (belowP_cell_ hb7 ⟨.inr (.inl rfl), HNB.out.1⟩ hS6.2.2.2.1) (belowP_cell_ hb7 ⟨.inr (.inl rfl), HNB.out.1⟩ hS6.2.2.2.2)))); have HI7 := Aside0.mk hi7; have HB7 := Aside0.mk hb7; have HR7 := Aside0.mk hr7; have HT7 := Aside0.mk ht7; clear hi7 hb7 hr7 ht7))
          have HW7 := Aside0.mk ((HBW5.out.trans (belowP_of HB6.out (fun k hk => HP5.out k hk.1))).trans HB7.out)
          have HTK := Aside0.mk (show row7.take p = pre from take_less_ HT7.out HL.out)
          have HG2 := Aside0.mk (show roundsG (fun s st => dfsG G f ds d (p + 1 + 1) (pre ++ [s]) (onT (r1, r2, r3) s (bt ds ((p + 1 : Nat) : Int))) st) (fun s st => dfsT f ds d (p + 1 + 1) (pre ++ [s]) (onT (r1, r2, r3) s (bt ds ((p + 1 : Nat) : Int))) st) (sgsT.drop (j + 1)) st2 from by
            have q : (dfsT f ds d (p + 1 + 1) (pre ++ [s]) (onT (r1, r2, r3) s (bt ds ((p + 1 : Nat) : Int))) st').2 = true → roundsG (fun s st => dfsG G f ds d (p + 1 + 1) (pre ++ [s]) (onT (r1, r2, r3) s (bt ds ((p + 1 : Nat) : Int))) st) (fun s st => dfsT f ds d (p + 1 + 1) (pre ++ [s]) (onT (r1, r2, r3) s (bt ds ((p + 1 : Nat) : Int))) st) (sgsT.drop (j + 1)) (dfsT f ds d (p + 1 + 1) (pre ++ [s]) (onT (r1, r2, r3) s (bt ds ((p + 1 : Nat) : Int))) st').1 := HGS.out.2
            rw [HRES.out] at q
            exact q rfl)
          have HF := Aside0.mk (((congrArg (fun l => roundsT _ l st') HDR.out).trans (roundsT_yes_ HRES.out)).symm.trans HQ.out)
          go_wp2
          go_roundg gk
          case measure => omega
          case rel => exact ⟨j + 1, st2, row7, by go_num, ⟨by have := HJ.out; omega⟩, HF, HG2, ⟨HR7.out, HTK.out⟩, HI7, HW7⟩
set_option maxHeartbeats 8000000 in
set_option maxRecDepth 100000 in
theorem signings_calls2 {σ : Type} (ds : ByteArray) (hd1 : 1 ≤ ds.size) (hds : ds.size ≤ 1000) (g : Nat) (caps : Array Value) (I : Nat → (Nat → Prop) → σ → World → Prop) (f : σ → List Int → Int → σ × Bool) (G : σ → Prop)
    (eg : ∀ args w, (callFunc g args).run Try.prog w = .ok (.enter g args) w) (w : World) (P : Nat → Prop) (st : σ)
    (hgo : ∀ Br, w.heap.size ≤ Br → ∀ (P : Nat → Prop) (w : World) (sg : List Int) (st : σ) (v : Int), (∀ k, P k → k < w.heap.size) → P Br → RowB w Br (ds.size - 1) sg → I Br P st w → G st → Calls Try.prog g (#[.slice (some ⟨Br, 0, none⟩) (ds.size - 1) (ds.size - 1), .int .i64 v] ++ caps) w fun e w' => e = .returned (.bool (f st sg v).2) ∧ I Br P (f st sg v).1 w' ∧ BelowP P w w')
    (hmono : ∀ Br (P Q : Nat → Prop) (st : σ) (w : World), (∀ k, Q k → P k ∨ w.heap.size ≤ k) → I Br P st w → I Br Q st w)
    (hstab : ∀ Br (P : Nat → Prop) (st : σ) (w w' : World), I Br P st w → (∀ k, k < w.heap.size → k ≠ Br → w'.heap[k]? = w.heap[k]?) → w.heap.size ≤ w'.heap.size → I Br P st w')
    (hP : ∀ k, P k → k < w.heap.size) (hI : ∀ Br, w.heap.size ≤ Br → I Br P st w) (hG : dfsG G f ds (ds.size - 1) 1 [] (0, 1, (bt ds 0 - 48) % 256) st) :
    Calls Try.prog 72 #[.string ds, .func (.func g) #[] caps] w fun e w' =>
      e = .returned (.bool (dfsT f ds (ds.size - 1) 1 [] (0, 1, (bt ds 0 - 48) % 256) st).2) ∧ (∃ Br, w.heap.size ≤ Br ∧ I Br P (dfsT f ds (ds.size - 1) 1 [] (0, 1, (bt ds 0 - 48) % 256) st).1 w') ∧ BelowP P w w' := by
  obtain ⟨m, hm⟩ : ∃ m, m + 1 = ds.size := ⟨ds.size - 1, by omega⟩
  have hm2 : ds.size - 1 = m := by omega
  rw [hm2] at hgo hG ⊢
  have h00 : 0 < ds.size := hd1
  have hbt : ((ds[0]'h00).toNat : Int) = bt ds 0 := by
    unfold bt
    rw [dif_pos (show (0 : Int).toNat < ds.size from h00)]
    rfl
  rw [← hbt] at hG ⊢
  clear hbt
  have hu := Try.underlying41
  have HI := Aside0.mk hI
  have HGG := Aside0.mk hG
  clear hG
  have HP := Aside0.mk hP
  have HM := Aside0.mk hm
  have HST := Aside0.mk hstab
  have HMO := Aside0.mk hmono
  have HGO := Aside0.mk hgo
  have HDS := Aside0.mk hds
  have hm1 : m ≤ 1000 := by omega
  have hsz : ((ds.size : Int)) - 1 = (m : Int) := by omega
  have h0 : (0 : Int) < (ds.size : Int) := by omega
  have hmf : ∀ (fn : Fn) (first cap : Array Value) (w : World), (Instr.makeFunc fn first cap).run Try.prog w = .ok (.func fn first cap) w := fun _ _ _ _ => rfl
  clear hI hP hm hstab hmono hgo hds hd1 hm2
  go_enter Try.func72, Try.ntmps72
  go_wp2_with (first | ((with_reducible refine gate_dst (N := 2) rfl ?_); refine box_event ?hg (N := 2) ?hd (cs := #[.string ds]) (t := 9) ?hr ?_; (case hd => rfl); (case hg => rfl); (case hr => first | (go_simp; done) | (go_simp; rfl)); intro Bd hg1 w1 hx1 hb1; have HG1 := Aside0.mk hg1; have HX1 := Aside0.mk hx1; have HB1 := Aside0.mk hb1; clear hg1 hx1 hb1) | ((with_reducible refine gate_dst (N := 3) rfl ?_); refine box_event ?hg (N := 3) ?hd (cs := #[.func (.func g) #[] caps]) (t := 60) ?hr ?_; (case hd => rfl); (case hg => rfl); (case hr => first | (go_simp; done) | (go_simp; rfl)); intro Be hg2 w2 hx2 hb2; have hcd : w2.cell? ⟨Bd, 0, none⟩ = some (.string ds) := (blk_cell (blk_below HX1.out hb2) 0).trans rfl; have HG2 := Aside0.mk hg2; have HX2 := Aside0.mk hx2; have HB2 := Aside0.mk hb2; clear hg2 hx2 hb2) | ((with_reducible refine gate_dst (N := 10) rfl ?_); refine make_event_ 5 ?hg (N := 10) ?hd 47 _ _ rfl m ?hx ?hy Try.underlying47 info5 hm1 ?_; (case hd => rfl); (case hg => rfl); (case hx => first | rfl | (go_simp; done) | (go_simp; rfl)); (case hy => first | rfl | (go_simp; done) | (go_simp; rfl)); intro Br hg3 w3 hx3 hb3; have HG3 := Aside0.mk hg3; have HX3 := Aside0.mk hx3; have HB3 := Aside0.mk hb3; clear hg3 hx3 hb3) | ((with_reducible refine gate_dst (N := 5) rfl ?_); refine box_event ?hg (N := 5) ?hd (cs := #[.slice none 0 0]) (t := 47) ?hr ?_; (case hd => rfl); (case hg => rfl); (case hr => first | (go_simp; done) | (go_simp; rfl)); intro Bs hg4 w4 hx4 hb4; have hcs0 : w4.cell? ⟨Bs, 0, none⟩ = some (.slice none 0 0) := (blk_cell hx4 0).trans rfl; have hfs0 := blk_frozen hx4 0; have HG4 := Aside0.mk hg4; have HX4 := Aside0.mk hx4; have HB4 := Aside0.mk hb4; clear hg4 hx4 hb4) | ((with_reducible refine gate_dst (N := 6) rfl ?_); refine box_event ?hg (N := 6) ?hd (cs := #[.nilFunc]) (t := 64) ?hr ?_; (case hd => rfl); (case hg => rfl); (case hr => first | (go_simp; done) | (go_simp; rfl)); intro Bc hg5 w5 hx5 hb5; have hcc0 : w5.cell? ⟨Bc, 0, none⟩ = some .nilFunc := (blk_cell hx5 0).trans rfl; have hfc0 := blk_frozen hx5 0; have HG5 := Aside0.mk hg5; have HX5 := Aside0.mk hx5; have HB5 := Aside0.mk hb5; clear hg5 hx5 hb5))
  have HXs := Aside0.mk (blk_put (cs' := #[.slice (some ⟨Br, 0, none⟩) m m]) HX4.out 0 (.slice (some ⟨Br, 0, none⟩) m m) rfl)
  have HXc := Aside0.mk (blk_put (cs' := #[.func (.func 78) #[] #[.pointer (some ⟨Bd, 0, none⟩), .pointer (some ⟨Be, 0, none⟩), .pointer (some ⟨Bs, 0, none⟩), .pointer (some ⟨Bc, 0, none⟩)]]) HX5.out 0 (.func (.func 78) #[] #[.pointer (some ⟨Bd, 0, none⟩), .pointer (some ⟨Be, 0, none⟩), .pointer (some ⟨Bs, 0, none⟩), .pointer (some ⟨Bc, 0, none⟩)]) rfl)
  have HN := Aside0.mk (show Bd = w.heap.size ∧ w.heap.size < w1.heap.size ∧ Be = w1.heap.size ∧ w1.heap.size < w2.heap.size ∧ Br = w2.heap.size ∧ w2.heap.size < w3.heap.size ∧ Bs = w3.heap.size ∧ w3.heap.size < w4.heap.size ∧ Bc = w4.heap.size ∧ w4.heap.size < w5.heap.size by
    have e5 : Bc = w4.heap.size := by rw [HG5.out]; simp [World.setCell]
    have l1 := blk_lt HX1.out
    have l2 := blk_lt HX2.out
    have l3 := HX3.out.1
    have l4 := blk_lt HX4.out
    have l5 := blk_lt HX5.out
    have := HG1.out; have := HG2.out; have := HG3.out; have := HG4.out
    omega)
  have HK := Aside0.mk (show ∀ k, k < w4.heap.size → k ≠ Bs → ∀ v, (w5.setCell ⟨Bc, 0, none⟩ v).heap[k]? = w4.heap[k]? from fun k hk hs v => by
    rw [Below.heap_setCell _ _ _ _ (show k ≠ Bc by have := HN.out; omega), HB5.out.block k (by simpa [World.setCell] using hk), Below.heap_setCell _ _ _ _ (show k ≠ Bs from hs)])
  have HB04 := Aside0.mk (below_then (below_then (below_then HB1.out HB1.out.size HB2.out) (Nat.le_trans HB1.out.size HB2.out.size) HB3.out) (Nat.le_trans HB1.out.size (Nat.le_trans HB2.out.size HB3.out.size)) HB4.out)
  have HB4s := Aside0.mk (show Below w.heap.size w (w4.setCell ⟨Bs, 0, none⟩ (.slice (some ⟨Br, 0, none⟩) m m)) from HB04.out.setCell (show w.heap.size ≤ Bs by have := HN.out; omega) _)
  have HBW := Aside0.mk (show Below w.heap.size w (w5.setCell ⟨Bc, 0, none⟩ (.func (.func 78) #[] #[.pointer (some ⟨Bd, 0, none⟩), .pointer (some ⟨Be, 0, none⟩), .pointer (some ⟨Bs, 0, none⟩), .pointer (some ⟨Bc, 0, none⟩)])) from (below_then HB4s.out HB4s.out.size HB5.out).setCell (show w.heap.size ≤ Bc by have := HN.out; omega) _)
  have hcd6 := (blk_cell ((HK.out Bd (by have := HN.out; omega) (by have := HN.out; omega) (.func (.func 78) #[] #[.pointer (some ⟨Bd, 0, none⟩), .pointer (some ⟨Be, 0, none⟩), .pointer (some ⟨Bs, 0, none⟩), .pointer (some ⟨Bc, 0, none⟩)])).trans (blk_below (blk_below (blk_below HX1.out HB2.out) HB3.out) HB4.out)) 0).trans (show _ = some (Value.string ds) from rfl)
  have hce6 := (blk_cell ((HK.out Be (by have := HN.out; omega) (by have := HN.out; omega) (.func (.func 78) #[] #[.pointer (some ⟨Bd, 0, none⟩), .pointer (some ⟨Be, 0, none⟩), .pointer (some ⟨Bs, 0, none⟩), .pointer (some ⟨Bc, 0, none⟩)])).trans (blk_below (blk_below HX2.out HB3.out) HB4.out)) 0).trans (show _ = some (Value.func (.func g) #[] caps) from rfl)
  have hcs6 := (blk_cell ((Below.heap_setCell w5 ⟨Bc, 0, none⟩ (.func (.func 78) #[] #[.pointer (some ⟨Bd, 0, none⟩), .pointer (some ⟨Be, 0, none⟩), .pointer (some ⟨Bs, 0, none⟩), .pointer (some ⟨Bc, 0, none⟩)]) Bs (show Bs ≠ Bc by have := HN.out; omega)).trans (blk_below HXs.out HB5.out)) 0).trans (show _ = some (Value.slice (some ⟨Br, 0, none⟩) m m) from rfl)
  have hcc6 := (blk_cell HXc.out 0).trans (show _ = some (Value.func (.func 78) #[] #[.pointer (some ⟨Bd, 0, none⟩), .pointer (some ⟨Be, 0, none⟩), .pointer (some ⟨Bs, 0, none⟩), .pointer (some ⟨Bc, 0, none⟩)]) from rfl)
  have HE6 := Aside0.mk (show EnvC Bd Be Br Bs Bc m g caps ds _ from ⟨hcd6, hce6, hcs6, hcc6⟩)
  have HR6 := Aside0.mk (rowB_block (rowB_below HX3.out HB4.out) (HK.out Br (by have := HN.out; omega) (by have := HN.out; omega) (.func (.func 78) #[] #[.pointer (some ⟨Bd, 0, none⟩), .pointer (some ⟨Be, 0, none⟩), .pointer (some ⟨Bs, 0, none⟩), .pointer (some ⟨Bc, 0, none⟩)])))
  have HBr := Aside0.mk (show w.heap.size ≤ Br by have := HN.out; omega)
  have HI6 := Aside0.mk (HMO.out Br P (fun k => P k ∨ k = Bd ∨ k = Be ∨ k = Br ∨ k = Bs ∨ k = Bc) st w (fun k hk => hk.imp id (fun e => by have := HN.out; omega)) (HI.out Br HBr.out))
  have HP6 := Aside0.mk (show ∀ k, (P k ∨ k = Bd ∨ k = Be ∨ k = Br ∨ k = Bs ∨ k = Bc) → k < w5.heap.size from fun k hk => by
    rcases hk with h | h
    · have := HP.out k h; have := HN.out; omega
    · have := HN.out; omega)
  have HSZ := Aside0.mk (show ∀ v, (w5.setCell ⟨Bc, 0, none⟩ v).heap.size = w5.heap.size from fun v => by simp [World.setCell])
  clear hcs6 hce6
  go_region_held3 (fun w' => w'.cell? ⟨Bc, 0, none⟩ = some (.func (.func 78) #[] #[.pointer (some ⟨Bd, 0, none⟩), .pointer (some ⟨Be, 0, none⟩), .pointer (some ⟨Bs, 0, none⟩), .pointer (some ⟨Bc, 0, none⟩)]) ∧ w'.cell? ⟨Bd, 0, none⟩ = some (.string ds))
    (first | exact ⟨hcc6, hcd6⟩ | exact hS7 | exact hS8)
    (first | (go_at_call 45; refine (impl_begin.calls _ _ _ _ _ rfl).mono ?_; rintro e w7 ⟨rfl, hb7⟩; have hb7' : Below (w5.setCell ⟨Bc, 0, none⟩ (.func (.func 78) #[] #[.pointer (some ⟨Bd, 0, none⟩), .pointer (some ⟨Be, 0, none⟩), .pointer (some ⟨Bs, 0, none⟩), .pointer (some ⟨Bc, 0, none⟩)])).heap.size (w5.setCell ⟨Bc, 0, none⟩ (.func (.func 78) #[] #[.pointer (some ⟨Bd, 0, none⟩), .pointer (some ⟨Be, 0, none⟩), .pointer (some ⟨Bs, 0, none⟩), .pointer (some ⟨Bc, 0, none⟩)])) w7 := ⟨hb7.os, hb7.tape, hb7.output, hb7.size, hb7.block⟩; clear hb7; have hS7 := And.intro (below_cell_ hb7' hcc6) (below_cell_ hb7' hcd6); have HB7 := Aside0.mk hb7'; clear hb7') | (go_at_call 78; refine (choose_calls2 ds HDS.out Bd Be Br Bs Bc m g caps (I Br) f G HM.out (by have := HN.out; omega) eg (HGO.out Br HBr.out) (HMO.out Br) (HST.out Br) m 0 1 (fun k => P k ∨ k = Bd ∨ k = Be ∨ k = Br ∨ k = Bs ∨ k = Bc) w7 (List.replicate m 0) [] _ _ _ st (by have := HM.out; omega) rfl rfl rfl (fun k hk => Nat.lt_of_lt_of_le (HP6.out k hk) (by have := HB7.out.size; rw [HSZ.out] at this; exact this)) ⟨.inr (.inl rfl), .inr (.inr (.inl rfl)), .inr (.inr (.inr (.inl rfl))), .inr (.inr (.inr (.inr (.inl rfl)))), .inr (.inr (.inr (.inr (.inr rfl))))⟩ (HE6.out.keepP (belowP_of (P := fun k => k < w5.heap.size) HB7.out (fun k hk => by rw [HSZ.out]; exact hk)) (HP6.out _ (.inr (.inl rfl))) (HP6.out _ (.inr (.inr (.inl rfl)))) (HP6.out _ (.inr (.inr (.inr (.inr (.inl rfl)))))) (HP6.out _ (.inr (.inr (.inr (.inr (.inr rfl))))))) (rowB_below HR6.out HB7.out) (HST.out Br _ st w w7 HI6.out (fun k hk _ => (below_then HBW.out HBW.out.size HB7.out).block k hk) (below_then HBW.out HBW.out.size HB7.out).size) HGG.out).mono ?_; rintro e w8 ⟨rfl, hi8, hb8, row8, hr8, ht8⟩; have hS8 := And.intro (belowP_cell_ hb8 ⟨.inr (.inr (.inr (.inr (.inr rfl)))), by have := HN.out; show Bc ≠ Br; omega⟩ hS7.1) (belowP_cell_ hb8 ⟨.inr (.inl rfl), by have := HN.out; show Bd ≠ Br; omega⟩ hS7.2); have HI8 := Aside0.mk hi8; have HB8 := Aside0.mk hb8; clear hi8 hb8 hr8 ht8))
  go_wp2
  go_ret
  exact ⟨rfl, ⟨Br, HBr.out, HMO.out Br _ P _ w8 (fun k hk => .inl (.inl hk)) HI8.out⟩, (belowP_of (below_then HBW.out HBW.out.size HB7.out) HP.out).trans (HB8.out.mono (fun k hk => ⟨.inl hk, by have := HP.out k hk; have := HBr.out; show k ≠ Br; omega⟩))⟩
def OnSigns2 {σ : Type} (A : Program) (g : Nat) (caps : Array Value) (n : Nat) (base : Nat) (I : Nat → (Nat → Prop) → σ → World → Prop) (f : σ → List Int → σ) (G : σ → Prop) : Prop :=
  ∀ Br, base ≤ Br → ∀ (P : Nat → Prop) (w : World) (sg : List Int) (st : σ), (∀ k, P k → k < w.heap.size) → P Br → RowB w Br n sg → I Br P st w → G st → Calls A g (#[.slice (some ⟨Br, 0, none⟩) n n] ++ caps) w fun e w' => e = .returned (.tuple #[]) ∧ I Br P (f st sg) w' ∧ BelowP P w w'
set_option maxHeartbeats 4000000 in
set_option maxRecDepth 100000 in
theorem makes1_calls2 {σ : Type} (number : Int) (Bn Be g n base Br : Nat) (hBr : base ≤ Br) (caps : Array Value) (I : Nat → (Nat → Prop) → σ → World → Prop) (f : σ → List Int → σ) (G : σ → Prop) (eg : ∀ args w, (callFunc g args).run Try.prog w = .ok (.enter g args) w) (hf : OnSigns2 Try.prog g caps n base I f G)
    (P : Nat → Prop) (w : World) (sg : List Int) (st : σ) (v : Int) (hP : ∀ k, P k → k < w.heap.size) (pr : P Br) (pn : P Bn ∧ P Be) (hn : w.cell? ⟨Bn, 0, none⟩ = some (.int .i64 number)) (he : w.cell? ⟨Be, 0, none⟩ = some (.func (.func g) #[] caps)) (hR : RowB w Br n sg) (hI : I Br P st w) (hG : G st) :
    Calls Try.prog 73 #[.slice (some ⟨Br, 0, none⟩) n n, .int .i64 v, .pointer (some ⟨Bn, 0, none⟩), .pointer (some ⟨Be, 0, none⟩)] w fun e w' => e = .returned (.bool (pick number f st sg v).2) ∧ I Br P (pick number f st sg v).1 w' ∧ BelowP P w w' := by
  have HF := Aside0.mk (hf Br hBr P w sg st hP pr hR hI hG)
  have HI := Aside0.mk hI
  clear hf hR hP pr pn hI hG
  by_cases c : v = number
  · have cb : (v == number) = true := beq_iff_eq.2 c
    have HC := Aside0.mk c
    clear c
    go_enter Try.func73, Try.ntmps73
    go_wp2_with (go_at_fn g; refine HF.out.mono ?_; rintro e w2 ⟨rfl, hi, hb⟩; have HI2 := Aside0.mk hi; have HB2 := Aside0.mk hb; clear hi hb)
    go_ret
    exact ⟨rfl, by unfold pick; rw [if_pos HC.out]; exact HI2.out, HB2.out⟩
  · have cb : (v == number) = false := beq_eq_false_iff_ne.2 c
    have HC := Aside0.mk c
    clear c
    go_enter Try.func73, Try.ntmps73
    go_wp2
    go_ret
    exact ⟨rfl, by unfold pick; rw [if_neg HC.out]; exact HI.out, BelowP.refl _ _⟩
set_option maxHeartbeats 4000000 in
set_option maxRecDepth 100000 in
theorem makes_calls2 {σ : Type} (ds : ByteArray) (hd1 : 1 ≤ ds.size) (hds : ds.size ≤ 1000) (number : Int) (g : Nat) (caps : Array Value) (I : Nat → (Nat → Prop) → σ → World → Prop) (f : σ → List Int → σ) (G : σ → Prop) (eg : ∀ args w, (callFunc g args).run Try.prog w = .ok (.enter g args) w) (w : World) (P : Nat → Prop) (st : σ)
    (hf : OnSigns2 Try.prog g caps (ds.size - 1) w.heap.size I f G)
    (hmono : ∀ Br (P Q : Nat → Prop) (st : σ) (w : World), (∀ k, Q k → P k ∨ w.heap.size ≤ k) → I Br P st w → I Br Q st w)
    (hstab : ∀ Br (P : Nat → Prop) (st : σ) (w w' : World), I Br P st w → (∀ k, k < w.heap.size → k ≠ Br → w'.heap[k]? = w.heap[k]?) → w.heap.size ≤ w'.heap.size → I Br P st w')
    (hP : ∀ k, P k → k < w.heap.size) (hI : ∀ Br, w.heap.size ≤ Br → I Br P st w) (hG : dfsG G (pick number f) ds (ds.size - 1) 1 [] (0, 1, (bt ds 0 - 48) % 256) st) :
    Calls Try.prog 53 #[.string ds, .int .i64 number, .func (.func g) #[] caps] w fun e w' =>
      e = .returned (.tuple #[]) ∧ (∃ Br, w.heap.size ≤ Br ∧ I Br P (dfsT (pick number f) ds (ds.size - 1) 1 [] (0, 1, (bt ds 0 - 48) % 256) st).1 w') ∧ BelowP P w w' := by
  have eg2 : ∀ args w, (callFunc 73 args).run Try.prog w = .ok (.enter 73 args) w := enters_of Try.func73 (by kernel_rfl) rfl
  have HI := Aside0.mk hI
  have HGG := Aside0.mk hG
  clear hG
  have HP := Aside0.mk hP
  have HST := Aside0.mk hstab
  have HMO := Aside0.mk hmono
  have HF := Aside0.mk hf
  have HEG := Aside0.mk eg
  have HD := Aside0.mk (And.intro hd1 hds)
  have hmf : ∀ (fn : Fn) (first cap : Array Value) (w : World), (Instr.makeFunc fn first cap).run Try.prog w = .ok (.func fn first cap) w := fun _ _ _ _ => rfl
  clear hI hP hmono hstab hf eg hd1 hds
  go_enter Try.func53, Try.ntmps53
  go_wp2_with (first | ((with_reducible refine gate_dst (N := 4) rfl ?_); refine box_event ?hg (N := 4) ?hd (cs := #[.int .i64 number]) (t := 3) ?hr ?_; (case hd => rfl); (case hg => rfl); (case hr => first | (go_simp; done) | (go_simp; rfl)); intro Bn hg1 w1 hx1 hb1; have HG1 := Aside0.mk hg1; have HX1 := Aside0.mk hx1; have HB1 := Aside0.mk hb1; clear hg1 hx1 hb1) | ((with_reducible refine gate_dst (N := 5) rfl ?_); refine box_event ?hg (N := 5) ?hd (cs := #[.func (.func g) #[] caps]) (t := 48) ?hr ?_; (case hd => rfl); (case hg => rfl); (case hr => first | (go_simp; done) | (go_simp; rfl)); intro Be hg2 w2 hx2 hb2; have HG2 := Aside0.mk hg2; have HX2 := Aside0.mk hx2; have HB2 := Aside0.mk hb2; clear hg2 hx2 hb2) | (go_at_call 72; refine (signings_calls2 ds HD.out.1 HD.out.2 73 #[.pointer (some ⟨Bn, 0, none⟩), .pointer (some ⟨Be, 0, none⟩)] (fun Br P st w => I Br (fun k => P k ∨ k = Bn ∨ k = Be) st w ∧ Bn ≠ Br ∧ Be ≠ Br ∧ Bn < w.heap.size ∧ Be < w.heap.size ∧ w.heap[Bn]? = some (.cells #[.int .i64 number] 3 (0, 0)) ∧ w.heap[Be]? = some (.cells #[.func (.func g) #[] caps] 48 (0, 0))) (pick number f) G eg2 w2 P st ?mgo ?mmono ?mstab (fun k hk => Nat.lt_of_lt_of_le (HP.out k hk) (Nat.le_trans HB1.out.size HB2.out.size)) ?mI HGG.out).mono ?_; (case mgo => (intro Br hbr P' w' sg st' v hP' pr hR hI' hG'; obtain ⟨hi, n1, n2, l1, l2, x1, x2⟩ := hI'; refine (makes1_calls2 number Bn Be g (ds.size - 1) w.heap.size Br (Nat.le_trans (Nat.le_trans HB1.out.size HB2.out.size) hbr) caps I f G HEG.out HF.out (fun k => P' k ∨ k = Bn ∨ k = Be) w' sg st' v (fun k hk => hk.elim (hP' k) (fun h => h.elim (fun h => by rw [h]; exact l1) (fun h => by rw [h]; exact l2))) (.inl pr) ⟨.inr (.inl rfl), .inr (.inr rfl)⟩ ((blk_cell x1 0).trans rfl) ((blk_cell x2 0).trans rfl) hR hi hG').mono ?_; rintro e w'' ⟨rfl, h1, h2⟩; exact ⟨rfl, ⟨h1, n1, n2, Nat.lt_of_lt_of_le l1 h2.size, Nat.lt_of_lt_of_le l2 h2.size, (h2.block _ (.inr (.inl rfl))).trans x1, (h2.block _ (.inr (.inr rfl))).trans x2⟩, h2.mono (fun k hk => .inl hk)⟩)); (case mmono => (rintro Br P' Q st' w' hq ⟨hi, hrest⟩; exact ⟨HMO.out Br _ _ st' w' (fun k hk => hk.elim (fun h => (hq k h).imp .inl id) (fun h => .inl (.inr h))) hi, hrest⟩)); (case mstab => (rintro Br P' st' w' w'' ⟨hi, n1, n2, l1, l2, x1, x2⟩ hk hs; exact ⟨HST.out Br _ st' w' w'' hi hk hs, n1, n2, Nat.lt_of_lt_of_le l1 hs, Nat.lt_of_lt_of_le l2 hs, (hk _ l1 n1).trans x1, (hk _ l2 n2).trans x2⟩)); (case mI => (intro Br hbr; have l1 := blk_lt HX1.out; have l2 := blk_lt HX2.out; have s1 := HB1.out.size; have s2 := HB2.out.size; have g1 := HG1.out; have g2 := HG2.out; have hbw := below_then HB1.out HB1.out.size HB2.out; exact ⟨HST.out Br _ st w w2 (HMO.out Br P _ st w (fun k hk => hk.imp id (fun e => by omega)) (HI.out Br (by omega))) (fun k hk _ => hbw.block k hk) hbw.size, by omega, by omega, by omega, by omega, blk_below HX1.out HB2.out, HX2.out⟩)); rintro e w3 ⟨rfl, ⟨Br, hbr, hi3⟩, hb3⟩; have HI3 := Aside0.mk hi3.1; have HB3 := Aside0.mk hb3; have HBR := Aside0.mk hbr; clear hi3 hb3 hbr))
  go_end0
  exact ⟨rfl, ⟨Br, Nat.le_trans (Nat.le_trans HB1.out.size HB2.out.size) HBR.out, HMO.out Br _ P _ w3 (fun k hk => .inl (.inl hk)) HI3.out⟩, (belowP_of (below_then HB1.out HB1.out.size HB2.out) HP.out).trans HB3.out⟩

-- included rowC
theorem wrapid_ {x : Int} (h0 : -9223372036854775808 ≤ x) (h1 : x < 9223372036854775808) : wrap64 x = x := by
  unfold wrap64
  omega
theorem rowB_C {w : World} {B n : Nat} {xs : List Int} (h : RowB w B n xs) (hn : n ≤ 1000) : Kd.C (Kd.int .u8) w (some ⟨B, 0, none⟩) n xs :=
  Kd.C_of_reads (d := (0 : Int)) ⟨h.2.1, by omega, fun _ => ⟨_, rfl, fun j hj => by rw [Addr.add_lit, Nat.zero_add]; exact h.2.2.1 j hj⟩⟩

-- included signedT
def outL (ds : ByteArray) : Nat → List Int → List Int
  | _, [] => []
  | i, s :: g => (if s = 0 then [bt ds ((i + 1 : Nat) : Int)] else [s, bt ds ((i + 1 : Nat) : Int)]) ++ outL ds (i + 1) g
def sgd (ds : ByteArray) (sg : List Int) : ByteArray := strOfNums ([bt ds 0] ++ outL ds 0 sg)
theorem signed_l0_ (ds : ByteArray) (sg : List Int) (hn : sg.length + 1 = ds.size) (h7 : ds.size ≤ 1000) : ∀ (d j k : Nat) (acc : List Int), j + d = sg.length → d < k → acc.length ≤ 2 * j + 1 → impl_signed.l0 k ds acc sg (sg.length : Int) j = some (strOfNums (acc ++ outL ds j (sg.drop j)))
  | 0, j, k, acc, e, hk, ha => by
    obtain ⟨k, rfl⟩ : ∃ m, k = m + 1 := ⟨k - 1, by omega⟩
    rw [impl_signed.l0, if_neg (show ¬ (j : Int) < (sg.length : Int) by omega), List.drop_of_length_le (by omega), outL, List.append_nil]
  | d + 1, j, k, acc, e, hk, ha => by
    obtain ⟨k, rfl⟩ : ∃ m, k = m + 1 := ⟨k - 1, by omega⟩
    have hj : j < sg.length := by omega
    have w1 : wrap64 ((j : Int) + 1) = ((j + 1 : Nat) : Int) := by rw [wrapid_ (by omega) (by omega)]; omega
    have hr : rd sg (j : Int) = sg[j] := by simp [rd, hj]
    have p1 : (j : Int) < (sg.length : Int) := by omega
    have p2 : (0 : Int) ≤ ((j + 1 : Nat) : Int) := by omega
    have p3 : ((j + 1 : Nat) : Int) < (ds.size : Int) := by omega
    rw [impl_signed.l0, if_pos p1, if_pos (show (0 : Int) ≤ (j : Int) by omega), if_pos p1, hr, w1, List.drop_eq_getElem_cons hj, outL]
    by_cases c : sg[j] = 0
    · rw [if_pos c, if_pos c, if_pos p2, if_pos p3, if_pos (by omega), signed_l0_ ds sg hn h7 d (j + 1) k _ (by omega) (by omega) (by simp; omega), List.append_assoc]
    · rw [if_neg c, if_neg c, if_pos (by omega), Option.bind_some, if_pos p2, if_pos p3, if_pos (by simp; omega), signed_l0_ ds sg hn h7 d (j + 1) k _ (by omega) (by omega) (by simp; omega), List.append_assoc, List.append_assoc]
      rfl
theorem signed_some_ (ds : ByteArray) (sg : List Int) (hn : sg.length + 1 = ds.size) (h7 : ds.size ≤ 1000) : impl_signed.f (sg.length + 1) ds sg = some (sgd ds sg) := by
  unfold impl_signed.f
  rw [if_pos (by omega)]
  have := signed_l0_ ds sg hn h7 sg.length 0 (sg.length + 1) [bt ds 0] (by omega) (by omega) (by simp)
  rw [show ((0 : Nat) : Int) = 0 from rfl] at this
  rw [this]
  rfl

-- included all

structure AllI (base Bo Bd : Nat) (ds : ByteArray) (Br : Nat) (P : Nat → Prop) (xs : List ByteArray) (w : World) : Prop where
  o : Bo ≠ Br ∧ ¬ P Bo ∧ Bo < w.heap.size ∧ Bo ≠ Bd
  d : Bd ≠ Br ∧ Bd < w.heap.size ∧ w.heap[Bd]? = some (.cells #[.string ds] 9 (0, 0))
  b : base ≤ w.heap.size
  v : ∃ v, w.heap[Bo]? = some (.cells #[v] 32 (0, 0)) ∧ Kd.R Kd.string 9 w base (fun k => ¬ P k ∧ k ≠ Br ∧ k ≠ Bo ∧ k ≠ Bd) v xs
theorem allI_mono {base Bo Bd : Nat} {ds : ByteArray} : ∀ Br (P Q : Nat → Prop) (st : List ByteArray) (w : World), (∀ k, Q k → P k ∨ w.heap.size ≤ k) → AllI base Bo Bd ds Br P st w → AllI base Bo Bd ds Br Q st w := by
  intro Br P Q st w hq h
  obtain ⟨v, hv, hr⟩ := h.v
  exact ⟨⟨h.o.1, fun hk => (hq _ hk).elim h.o.2.1 (fun hle => absurd h.o.2.2.1 (Nat.not_lt.mpr hle)), h.o.2.2⟩, h.d, h.b, v, hv, Kd.R_mono (Kd.R_bound hr) (fun k hk => ⟨fun hQ => (hq k hQ).elim hk.1.1 (fun hle => absurd hk.2.2.1 (Nat.not_lt.mpr hle)), hk.1.2⟩)⟩
theorem allI_stab {base Bo Bd : Nat} {ds : ByteArray} : ∀ Br (P : Nat → Prop) (st : List ByteArray) (w w' : World), AllI base Bo Bd ds Br P st w → (∀ k, k < w.heap.size → k ≠ Br → w'.heap[k]? = w.heap[k]?) → w.heap.size ≤ w'.heap.size → AllI base Bo Bd ds Br P st w' := by
  intro Br P st w w' h hk hs
  obtain ⟨v, hv, hr⟩ := h.v
  exact ⟨⟨h.o.1, h.o.2.1, Nat.lt_of_lt_of_le h.o.2.2.1 hs, h.o.2.2.2⟩, ⟨h.d.1, Nat.lt_of_lt_of_le h.d.2.1 hs, (hk Bd h.d.2.1 h.d.1).trans h.d.2.2⟩, Nat.le_trans h.b hs, v, (hk Bo h.o.2.2.1 h.o.1).trans hv, Kd.R_step hr (fun k hok hlt => hk k hlt hok.2.1)⟩
def allF (ds : ByteArray) : List ByteArray → List Int → List ByteArray := fun xs sg => xs ++ [sgd ds sg]
def allG : List ByteArray → Prop := fun xs => xs.length < 5000
theorem all_grown_ {w w3 w5 : World} {row : Option Nat} (hb : Below w.heap.size w w3) (hg : w3.grownBy w5 row) : w.grownBy w5 row :=
  ⟨hg.os.trans hb.os, hg.tape.trans hb.tape, hg.output.trans hb.output, Nat.le_trans hb.size hg.size, fun k hk hne => (hg.block k (Nat.lt_of_lt_of_le hk hb.size) hne).trans (hb.block k hk)⟩
set_option maxHeartbeats 8000000 in
set_option maxRecDepth 100000 in
theorem all1_calls (ds : ByteArray) (h7 : ds.size ≤ 1000) (n : Nat) (hn : n + 1 = ds.size) (base base2 Bo Bd : Nat) :
    OnSigns2 Try.prog 58 #[.pointer (some ⟨Bo, 0, none⟩), .pointer (some ⟨Bd, 0, none⟩)] n base2 (AllI base Bo Bd ds) (allF ds) allG := by
  intro Br _ P w sg st hP pr hR hI hG
  have hlen := hR.2.1
  subst hlen
  obtain ⟨v0, hv, hr⟩ := hI.v
  have hsome := signed_some_ ds sg hn h7
  have c1 : w.cell? ⟨Bo, 0, none⟩ = some v0 := (blk_cell hv 0).trans rfl
  have c2 : w.cell? ⟨Bd, 0, none⟩ = some (.string ds) := (blk_cell hI.d.2.2 0).trans rfl
  have HR := Aside0.mk hR
  have HPR := Aside0.mk pr
  have HI := Aside0.mk hI
  have HV := Aside0.mk hv
  have HRR := Aside0.mk hr
  have HNV := Aside0.mk (show some Bo ≠ v0.ownBlock ∧ some Bd ≠ v0.ownBlock ∧ ∀ k, P k → some k ≠ v0.ownBlock from ⟨Kd.R_away hr (fun k hk => hk.2.2.1), Kd.R_away hr (fun k hk => hk.2.2.2), fun k hk => Kd.R_away hr (fun j hj e => hj.1 (e ▸ hk))⟩)
  have HFR := Aside0.mk (show ∀ W : World, w.heap.size ≤ W.heap.size → ∀ k, W.heap.size ≤ k → (¬ P k ∧ k ≠ Br ∧ k ≠ Bo ∧ k ≠ Bd) from fun W hW k hk => ⟨fun hp => by have := hP k hp; omega, by have := hR.1; omega, by have := hI.o.2.2.1; omega, by have := hI.d.2.1; omega⟩)
  have HRC := Aside0.mk (rowB_C hR (by omega))
  have HS := Aside0.mk hsome
  have HN := Aside0.mk (And.intro hn h7)
  have HP := Aside0.mk hP
  have HG := Aside0.mk hG
  clear hR hI hv hr hsome hP pr hn h7 hG
  go_enter Try.func58, Try.ntmps58
  go_wp2
  refine start_ (n := 7) (S := fun w' => w'.cell? ⟨Bo, 0, none⟩ = some v0 ∧ w'.cell? ⟨Bd, 0, none⟩ = some (.string ds)) (ds := [5, 6]) #[false, false, false, false, false, false, false] (by kernel_rfl) rfl rfl ⟨c1, c2⟩ (fun hHeld => ?_)
  refine pure_ (i := 2) (N := some 6) (v := ?_) (a' := ?_) #[false, false, true, false, false, false, false] rfl rfl (by kernel_rfl) (fun _ _ _ h => h) (Or.inl ⟨by rfl, ?_⟩) ?_ ?_
  rotate_left
  · intro w'
    go_simp
    with_reducible rfl
  rotate_left
  · simp only [Act.put, List.setIfInBounds_toArray, List.set_cons_zero, List.set_cons_succ, i64_w, i32_w]
    rfl
  refine take_ (i := 0) (N := some 4) (v := ?_) (a' := ?_) #[true, false, true, false, false, false, false] rfl rfl (by kernel_rfl) (fun _ _ _ h => h) (Or.inl ⟨by rfl, ?_⟩) hHeld ?_ ?_
  rotate_left
  · rintro w' ⟨s0, s1⟩
    go_simp
    with_reducible rfl
  rotate_left
  · simp only [Act.put, List.setIfInBounds_toArray, List.set_cons_zero, List.set_cons_succ, i64_w, i32_w]
    rfl
  refine take_ (i := 1) (N := some 5) (v := ?_) (a' := ?_) #[true, true, true, false, false, false, false] rfl rfl (by kernel_rfl) (fun _ _ _ h => h) (Or.inl ⟨by rfl, ?_⟩) hHeld ?_ ?_
  rotate_left
  · rintro w' ⟨s0, s1⟩
    go_simp
    with_reducible rfl
  rotate_left
  · simp only [Act.put, List.setIfInBounds_toArray, List.set_cons_zero, List.set_cons_succ, i64_w, i32_w]
    rfl
  refine one_ (i := 3) (N := some 7) #[true, true, true, true, false, false, false] rfl rfl (by kernel_rfl) (by decide) (fun K hK => ?_)
  refine goes_ Try.func59 (by kernel_rfl) rfl #[.string ds, .slice (some ⟨Br, 0, none⟩) sg.length sg.length] (by rfl) rfl rfl (by simp only [List.map_toArray, List.map_cons, List.map_nil]; rfl) ?_
  with_reducible refine (impl_signed.calls (sg.length + 1) ds (some ⟨Br, 0, none⟩) sg.length sg (sgd ds sg) _ (Kd.C_drew HRC.out) (Nat.le_refl _) HS.out).mono ?_
  rintro e w3 ⟨rfl, hb3⟩
  refine ⟨_, rfl, ?_⟩
  have HB3 := Aside0.mk (show Below w.heap.size w w3 from below_then (below_drew (Below.refl _ _)) (Nat.le_refl _) hb3)
  clear hb3
  refine hK.out _ _ ⟨below_cell_ HB3.out c1, below_cell_ HB3.out c2⟩ (fun hHeld => ?_)
  clear hK K
  refine norm_ (a' := ?_) ?_ ?_
  rotate_left
  · show Act.put _ (some 7) _ = _
    simp only [Act.put, List.setIfInBounds_toArray, List.set_cons_zero, List.set_cons_succ, i64_w, i32_w]
    rfl
  refine one_ (i := 4) (N := some 8) #[true, true, true, true, true, false, false] rfl rfl (by kernel_rfl) (by decide) (fun K hK => ?_)
  refine value_ (w1 := ?_) (v := ?_) (by rfl) rfl ?_ ?_
  rotate_left 2
  · go_simp
    constructor
    · rfl
    · rfl
  refine hK.out _ _ ⟨below_cell_ (below_alloc (Below.refl _ _) _) (below_cell_ HB3.out c1), below_cell_ (below_alloc (Below.refl _ _) _) (below_cell_ HB3.out c2)⟩ (fun hHeld => ?_)
  clear hK K
  refine norm_ (a' := ?_) ?_ ?_
  rotate_left
  · show Act.put _ (some 8) _ = _
    simp only [Act.put, List.setIfInBounds_toArray, List.set_cons_zero, List.set_cons_succ, i64_w, i32_w]
    rfl
  refine last_ (i := 5) (N := some 9) #[true, true, true, true, true, true, false] rfl rfl (by kernel_rfl) (by decide) (fun K hK => ?_)
  refine Kd.R_append_step Kd.string (w0 := w) base (by rfl) (.tmp 4) (.tmp 8) 32 9 (.string (⟨#[]⟩ : ByteArray)) 16 rfl Try.underlying32 info9 rfl (by decide) (by omega) v0 st (sgd ds sg) [.string (sgd ds sg)] (fun k => ¬ P k ∧ k ≠ Br ∧ k ≠ Bo ∧ k ≠ Bd) (fun _ => False) rfl rfl rfl (fun _ hk => hk.elim) ?aF ?aO ?aB ?aS ?aL ?_
  case aF => exact HFR.out w3 HB3.out.size
  case aO => exact Kd.R_below HRR.out HB3.out
  case aB => exact HB3.out.mono HI.out.b
  case aS => exact Nat.le_trans HI.out.b HB3.out.size
  case aL => have := HG.out; unfold allG at this; omega
  intro v1 w5 ho hb hg hat
  obtain ⟨A1, cp1, rfl⟩ := Kd.R_slice ho
  rw [show (st ++ [sgd ds sg]).length = st.length + 1 by simp] at ho
  have HO5 := Aside0.mk ho
  have HG5 := Aside0.mk (all_grown_ HB3.out hg)
  have hx5 := (HG5.out.block Bo HI.out.o.2.2.1 HNV.out.1).trans HV.out
  have hc5 : w5.cell? ⟨Bo, 0, none⟩ = some v0 := (blk_cell hx5 0).trans rfl
  have hf5 := blk_frozen hx5 0
  have HX5 := Aside0.mk hx5
  clear ho hb hg hat hx5
  refine hK.out _ _ ?_
  clear hK K
  refine norm_ (a' := ?_) ?_ ?_
  rotate_left
  · show Act.put _ (some 9) _ = _
    simp only [Act.put, List.setIfInBounds_toArray, List.set_cons_zero, List.set_cons_succ, i64_w, i32_w]
    rfl
  refine last_ (i := 6) (N := none) #[true, true, true, true, true, true, true] rfl rfl (by kernel_rfl) (by decide) (fun K hK => ?_)
  refine skip_ (w1 := ?_) (by rfl) rfl ?_ ?_
  rotate_left
  · go_simp
    rfl
  refine hK.out _ _ ?_
  clear hK K
  refine done_ (by kernel_rfl) ?_

  go_end0
  have hne : ∀ k, k ≠ Bo → (w5.setCell ⟨Bo, 0, none⟩ (.slice A1 (st.length + 1) cp1)).heap[k]? = w5.heap[k]? := fun k hk => Below.heap_setCell w5 ⟨Bo, 0, none⟩ _ k hk
  have hsz := setCell_size_ w5 ⟨Bo, 0, none⟩ (.slice A1 (st.length + 1) cp1)
  have hput := blk_put (cs' := #[.slice A1 (st.length + 1) cp1]) HX5.out 0 (.slice A1 (st.length + 1) cp1) rfl
  refine ⟨rfl, ⟨⟨HI.out.o.1, HI.out.o.2.1, by rw [hsz]; exact Nat.lt_of_lt_of_le HI.out.o.2.2.1 HG5.out.size, HI.out.o.2.2.2⟩, ⟨HI.out.d.1, by rw [hsz]; exact Nat.lt_of_lt_of_le HI.out.d.2.1 HG5.out.size, (hne Bd (fun e => HI.out.o.2.2.2 e.symm)).trans ((HG5.out.block Bd HI.out.d.2.1 HNV.out.2.1).trans HI.out.d.2.2)⟩, by rw [hsz]; exact Nat.le_trans HI.out.b HG5.out.size, (.slice A1 (st.length + 1) cp1), hput, Kd.R_far HO5.out (fun k hk => hk.2.2.1) (.slice A1 (st.length + 1) cp1)⟩, ?_⟩
  exact ⟨HG5.out.os, HG5.out.tape, HG5.out.output, by rw [hsz]; exact HG5.out.size, fun k hk => (hne k (fun e => HI.out.o.2.1 (e ▸ hk))).trans (HG5.out.block k (HP.out k hk) (HNV.out.2.2 k hk))⟩

theorem all_rounds_ {σ : Type} (g : Int → List σ → List σ × Bool) (c : Nat) (h : ∀ s st, (g s st).2 = true ∧ (g s st).1.length ≤ st.length + c) : ∀ (L : List Int) (st : List σ), (roundsT g L st).2 = true ∧ (roundsT g L st).1.length ≤ st.length + L.length * c
  | [], st => by simp [roundsT]
  | s :: L, st => by
    have h1 := h s st
    have h2 := all_rounds_ g c h L (g s st).1
    rw [roundsT, if_pos h1.1]
    refine ⟨h2.1, ?_⟩
    rw [List.length_cons, Nat.succ_mul]
    omega
theorem all_len_ (ds : ByteArray) (x : Int) : ∀ (d i : Nat) (pre : List Int) (r : Int × Int × Int) (st : List ByteArray), (dfsT (pick x (allF ds)) ds d i pre r st).2 = true ∧ (dfsT (pick x (allF ds)) ds d i pre r st).1.length ≤ st.length + 4 ^ d
  | 0, i, pre, r, st => by
    unfold dfsT pick allF
    refine ⟨rfl, ?_⟩
    split <;> simp
  | d + 1, i, pre, r, st => by
    have h := all_rounds_ (fun s st => dfsT (pick x (allF ds)) ds d (i + 1) (pre ++ [s]) (onT r s (bt ds (i : Int))) st) (4 ^ d) (fun s st => all_len_ ds x d (i + 1) _ _ st) [42, 43, 45, 0] st
    rw [dfsT]
    refine ⟨h.1, Nat.le_trans h.2 ?_⟩
    rw [Nat.pow_succ]
    simp only [List.length_cons, List.length_nil]
    omega
theorem all_roundsG_ (g : Int → List ByteArray → Prop) (h : Int → List ByteArray → List ByteArray × Bool) (c : Nat) (hg : ∀ s st, st.length + c ≤ 5000 → g s st) (hh : ∀ s st, (h s st).1.length ≤ st.length + c) : ∀ (L : List Int) (st : List ByteArray), st.length + L.length * c ≤ 5000 → roundsG g h L st
  | [], _, _ => trivial
  | s :: L, st, hl => by
    rw [List.length_cons, Nat.succ_mul] at hl
    have := hh s st
    exact ⟨hg s st (by omega), fun _ => all_roundsG_ g h c hg hh L _ (by omega)⟩
theorem all_good_ (ds : ByteArray) (x : Int) : ∀ (d i : Nat) (pre : List Int) (r : Int × Int × Int) (st : List ByteArray), st.length + 4 ^ d ≤ 5000 → dfsG allG (pick x (allF ds)) ds d i pre r st
  | 0, i, pre, r, st, h => by
    show st.length < 5000
    simp at h
    omega
  | d + 1, i, pre, r, st, h => by
    rw [Nat.pow_succ] at h
    exact all_roundsG_ _ _ (4 ^ d) (fun s st hs => all_good_ ds x d (i + 1) _ _ st hs) (fun s st => (all_len_ ds x d (i + 1) _ _ st).2) [42, 43, 45, 0] st (by simp only [List.length_cons, List.length_nil]; omega)
theorem all_small_ {n : Nat} (h : n ≤ 7) : ([] : List ByteArray).length + 4 ^ (n - 1) ≤ 5000 := by
  have : 4 ^ (n - 1) ≤ 4 ^ 6 := Nat.pow_le_pow_right (by decide) (by omega)
  simp only [List.length_nil, Nat.zero_add]
  exact Nat.le_trans this (by decide)
def allT (ds : ByteArray) (x : Int) : List ByteArray := (dfsT (pick x (allF ds)) ds (ds.size - 1) 1 [] (startT ds) ([] : List ByteArray)).1
theorem all_start_ {Bo Bd g : Nat} {ds : ByteArray} {w w4 : World} (hb : Below w.heap.size w w4) (h1 : w.heap.size ≤ Bd) (h2 : Bd < g) (h3 : g < Bo) (h4 : Bo < w4.heap.size)
    (xo : w4.heap[Bo]? = some (.cells #[.slice none 0 0] 32 (0, 0))) (xg : w4.heap[g]? = some (.cells #[] 9 (0, 0))) (xd : w4.heap[Bd]? = some (.cells #[.string ds] 9 (0, 0))) :
    BelowP (fun k => k < w.heap.size) w (w4.setCell ⟨Bo, 0, none⟩ (.slice (some ⟨g, 0, none⟩) 0 0)) ∧ ∀ Br, (w4.setCell ⟨Bo, 0, none⟩ (.slice (some ⟨g, 0, none⟩) 0 0)).heap.size ≤ Br → AllI w.heap.size Bo Bd ds Br (fun k => k < w.heap.size) [] (w4.setCell ⟨Bo, 0, none⟩ (.slice (some ⟨g, 0, none⟩) 0 0)) := by
  have hsz := setCell_size_ w4 ⟨Bo, 0, none⟩ (.slice (some ⟨g, 0, none⟩) 0 0)
  have hne : ∀ k, k ≠ Bo → (w4.setCell ⟨Bo, 0, none⟩ (.slice (some ⟨g, 0, none⟩) 0 0)).heap[k]? = w4.heap[k]? := fun k hk => Below.heap_setCell w4 ⟨Bo, 0, none⟩ _ k hk
  have hput := blk_put xo 0 (.slice (some ⟨g, 0, none⟩) 0 0) rfl
  have hP := belowP_set (P := fun k => k < w.heap.size) (belowP_of hb (fun k hk => hk)) (b := Bo) (show ¬ Bo < w.heap.size by omega) 0 (.slice (some ⟨g, 0, none⟩) 0 0)
  generalize w4.setCell ⟨Bo, 0, none⟩ (.slice (some ⟨g, 0, none⟩) 0 0) = W at hsz hne hput hP ⊢
  have hg : W.heap[g]? = some (.cells #[] 9 (0, 0)) := (hne g (by omega)).trans xg
  refine ⟨hP, fun Br hBr => ⟨⟨by omega, show ¬ Bo < w.heap.size by omega, by omega, by omega⟩, ⟨by omega, by omega, (hne Bd (by omega)).trans xd⟩, hP.size, _, hput, ?_⟩⟩
  refine Kd.R_of_own ⟨rfl, .inr ⟨g, 0, #[], rfl, by omega, hg, Nat.le_refl _, by decide, rfl, rfl⟩⟩ (fun k hk => ?_)
  have e : g = k := Option.some.inj hk
  subst e
  exact ⟨show ¬ g < w.heap.size by omega, by omega, by omega, by omega⟩
theorem all_read_ {base Bo Bd Br : Nat} {P : Nat → Prop} {ds : ByteArray} {x : Int} {w : World} (h : AllI base Bo Bd ds Br P (dfsT (pick x (allF ds)) ds (ds.size - 1) 1 [] (0, 1, (bt ds 0 - 48) % 256) ([] : List ByteArray)).1 w) : ∃ v, w.cell? ⟨Bo, 0, none⟩ = some v ∧ Kd.R Kd.string 9 w base (fun _ => True) v (allT ds x) := by
  have e : (dfsT (pick x (allF ds)) ds (ds.size - 1) 1 [] (0, 1, (bt ds 0 - 48) % 256) ([] : List ByteArray)).1 = allT ds x := by unfold allT startT; rfl
  rw [e] at h
  obtain ⟨v, hv, hr⟩ := h.v
  exact ⟨v, (blk_cell hv 0).trans rfl, Kd.R_mono hr (fun _ _ => trivial)⟩
def impl_AllMade.f (k : Nat) (a0 : ByteArray) (a1 : Int) : Option (List ByteArray × Bool) := (impl_CountMade.f k a0 a1).bind fun b => if b.2 = true then (if b.1 > 100 then some (([] : List ByteArray), false) else some (allT a0 a1, true)) else some (([] : List ByteArray), false)
theorem impl_AllMade.mono : ∀ a0 a1 k, LeO (impl_AllMade.f k a0 a1) (impl_AllMade.f (k + 1) a0 a1) := by
  intro a0 a1 k
  unfold impl_AllMade.f
  exact LeO.bind (impl_CountMade.mono _ _ _) (fun _ => LeO.refl _)
theorem cm_goal_ {k : Nat} {a0 : ByteArray} {a1 : Int} {m : Int} (h : impl_CountMade.f k a0 a1 = some (m, true)) : impl_isGoal.f k a0 a1 = some true := by
  obtain ⟨b, hg, h2⟩ := Option.bind_eq_some_iff.mp (show (impl_isGoal.f k a0 a1).bind _ = some (m, true) from h)
  cases b with
  | true => exact hg
  | false =>
    rw [if_neg (by simp)] at h2
    simp only [Option.some.injEq, Prod.mk.injEq] at h2
    cases h2.2
set_option maxHeartbeats 8000000 in
set_option maxRecDepth 100000 in
theorem impl_AllMade.calls (k : Nat) (a0 : ByteArray) (a1 : Int) (r1 : List ByteArray) (r2 : Bool) (w : World) (h : impl_AllMade.f k a0 a1 = some (r1, r2)) :
    Calls Try.prog 29 #[.string a0, .int .i64 a1] w fun e w' => ∃ v0_ : Value, e = .returned (.tuple #[v0_, .bool r2]) ∧ Kd.R Kd.string 9 w' w.heap.size (fun _ => True) v0_ r1 ∧ Below w.heap.size w w' := by
  obtain ⟨⟨m, b⟩, hg, h2⟩ := Option.bind_eq_some_iff.mp (show (impl_CountMade.f k a0 a1).bind _ = some (r1, r2) from h)
  clear h
  have hmf : ∀ (fn : Fn) (first cap : Array Value) (w : World), (Instr.makeFunc fn first cap).run Try.prog w = .ok (.func fn first cap) w := fun _ _ _ _ => rfl
  cases b with
  | false =>
    replace h2 : some (([] : List ByteArray), false) = some (r1, r2) := h2
    simp only [Option.some.injEq, Prod.mk.injEq] at h2
    obtain ⟨rfl, rfl⟩ := h2
    have HGL := Aside0.mk hg
    clear hg
    go_enter Try.func29, Try.ntmps29
    go_wp2_with (first | ((with_reducible refine gate_dst (N := 2) rfl ?_); refine box_event ?hg (N := 2) ?hd (cs := #[.string a0]) (t := 9) ?hr ?_; (case hd => rfl); (case hg => rfl); (case hr => first | (go_simp; done) | (go_simp; rfl)); intro Bd hg1 w1 hx1 hb1; have hcd : w1.cell? ⟨Bd, 0, none⟩ = some (.string a0) := (blk_cell hx1 0).trans rfl; have HB1 := Aside0.mk hb1; clear hg1 hx1 hb1) | (go_at_call 25; refine (impl_CountMade.calls k a0 a1 m false _ HGL.out).mono ?_; rintro e w2 ⟨rfl, hb2⟩; have HB2 := Aside0.mk hb2; clear hb2))
    go_ret2
    exact ⟨.slice none 0 0, rfl, Kd.R_nil _ _ _ _ _, below_then HB1.out HB1.out.size HB2.out⟩
  | true =>
    replace h2 : (if m > 100 then some (([] : List ByteArray), false) else some (allT a0 a1, true)) = some (r1, r2) := h2
    have HSZ := Aside0.mk (goal_size_ (cm_goal_ hg))
    have HGL := Aside0.mk hg
    clear hg
    by_cases c : m > 100
    · rw [if_pos c] at h2
      simp only [Option.some.injEq, Prod.mk.injEq] at h2
      obtain ⟨rfl, rfl⟩ := h2
      have cb : decide (100 < m) = true := decide_eq_true c
      clear c
      go_enter Try.func29, Try.ntmps29
      go_wp2_with (first | ((with_reducible refine gate_dst (N := 2) rfl ?_); refine box_event ?hg (N := 2) ?hd (cs := #[.string a0]) (t := 9) ?hr ?_; (case hd => rfl); (case hg => rfl); (case hr => first | (go_simp; done) | (go_simp; rfl)); intro Bd hg1 w1 hx1 hb1; have hcd : w1.cell? ⟨Bd, 0, none⟩ = some (.string a0) := (blk_cell hx1 0).trans rfl; have HB1 := Aside0.mk hb1; clear hg1 hx1 hb1) | (go_at_call 25; refine (impl_CountMade.calls k a0 a1 m true _ HGL.out).mono ?_; rintro e w2 ⟨rfl, hb2⟩; have HB2 := Aside0.mk hb2; clear hb2))
      go_ret2
      exact ⟨.slice none 0 0, rfl, Kd.R_nil _ _ _ _ _, below_then HB1.out HB1.out.size HB2.out⟩
    · rw [if_neg c] at h2
      simp only [Option.some.injEq, Prod.mk.injEq] at h2
      obtain ⟨rfl, rfl⟩ := h2
      have cb : decide (100 < m) = false := decide_eq_false c
      clear c
      have HEG := Aside0.mk (show ∀ args w, (callFunc 58 args).run Try.prog w = .ok (.enter 58 args) w from enters_of Try.func58 (by kernel_rfl) rfl)
      go_enter Try.func29, Try.ntmps29
      go_wp2_with (first | ((with_reducible refine gate_dst (N := 2) rfl ?_); refine box_event ?hg (N := 2) ?hd (cs := #[.string a0]) (t := 9) ?hr ?_; (case hd => rfl); (case hg => rfl); (case hr => first | (go_simp; done) | (go_simp; rfl)); intro Bd hg1 w1 hx1 hb1; have hcd : w1.cell? ⟨Bd, 0, none⟩ = some (.string a0) := (blk_cell hx1 0).trans rfl; have HG1 := Aside0.mk hg1; have HX1 := Aside0.mk hx1; have HB1 := Aside0.mk hb1; clear hg1 hx1 hb1) | (go_at_call 25; refine (impl_CountMade.calls k a0 a1 m true _ HGL.out).mono ?_; rintro e w2 ⟨rfl, hb2⟩; have HB2 := Aside0.mk hb2; clear hb2) | ((with_reducible refine gate_dst (N := 21) rfl ?_); refine lit_event_ ?hg (N := 21) ?hd (cs := #[]) (t := 9) (fun g => .slice (some ⟨g, 0, none⟩) 0 0) ?hr ?_; (case hd => rfl); (case hg => rfl); (case hr => first | (go_simp; done) | (go_simp; rfl)); intro g hg3 w3 hx3 hb3; have HG3 := Aside0.mk hg3; have HX3 := Aside0.mk hx3; have HB3 := Aside0.mk hb3; clear hg3 hx3 hb3) | ((with_reducible refine gate_dst (N := 8) rfl ?_); refine box_event ?hg (N := 8) ?hd (cs := #[.slice none 0 0]) (t := 32) ?hr ?_; (case hd => rfl); (case hg => rfl); (case hr => first | (go_simp; done) | (go_simp; rfl)); intro Bo hg4 w4 hx4 hb4; have hc4 : w4.cell? ⟨Bo, 0, none⟩ = some (.slice none 0 0) := (blk_cell hx4 0).trans rfl; have hf4 := blk_frozen hx4 0; have HXD := Aside0.mk (blk_below (blk_below (blk_below HX1.out HB2.out) HB3.out) hb4); have HSZ4 := Aside0.mk (show w.heap.size ≤ Bd ∧ Bd < g ∧ g < Bo ∧ Bo < w4.heap.size from ⟨by rw [HG1.out]; exact Nat.le_refl _, by have a1 := blk_lt HX1.out; have a2 := HG3.out; have a3 := HB2.out.size; omega, by have a1 := blk_lt HX3.out; have a3 := hg4; omega, blk_lt hx4⟩); have HST := Aside0.mk (all_start_ (ds := a0) (below_then (below_then (below_then HB1.out HB1.out.size HB2.out) (below_then HB1.out HB1.out.size HB2.out).size HB3.out) (below_then (below_then HB1.out HB1.out.size HB2.out) (below_then HB1.out HB1.out.size HB2.out).size HB3.out).size hb4) HSZ4.out.1 HSZ4.out.2.1 HSZ4.out.2.2.1 HSZ4.out.2.2.2 hx4 (blk_below HX3.out hb4) HXD.out); have hcd4 : (w4.setCell ⟨Bo, 0, none⟩ (.slice (some ⟨g, 0, none⟩) 0 0)).cell? ⟨Bd, 0, none⟩ = some (.string a0) := ((World.cell?_of_block (w := w4) (Below.heap_setCell w4 _ _ Bd (fun e => by have := HSZ4.out; have e2 : Bd = Bo := e; omega))).trans (blk_cell HXD.out 0)).trans rfl; clear hg4 hx4 hb4) | (go_at_call 53; refine (makes_calls2 a0 HSZ.out.1 (Nat.le_trans HSZ.out.2 (by decide)) a1 58 #[.pointer (some ⟨Bo, 0, none⟩), .pointer (some ⟨Bd, 0, none⟩)] (AllI w.heap.size Bo Bd a0) (allF a0) allG HEG.out _ (fun k => k < w.heap.size) [] (all1_calls a0 (Nat.le_trans HSZ.out.2 (by decide)) (a0.size - 1) (Nat.sub_add_cancel HSZ.out.1) w.heap.size _ Bo Bd) allI_mono allI_stab (fun k hk => Nat.lt_of_lt_of_le hk HST.out.1.size) HST.out.2 (all_good_ a0 a1 _ _ _ _ _ (all_small_ HSZ.out.2))).mono ?_; rintro e w5 ⟨rfl, ⟨Br, _, hi⟩, hb5⟩; obtain ⟨v5, hc5, hr5⟩ := all_read_ hi; have HR5 := Aside0.mk hr5; have HB5 := Aside0.mk hb5; clear hi hb5 hr5))
      go_ret2
      have hb := HST.out.1.trans HB5.out
      exact ⟨v5, rfl, HR5.out, ⟨hb.os, hb.tape, hb.output, hb.size, fun k hk => hb.block k hk⟩⟩

/-! ### laws_eqStringS: function 30 -/
def laws_eqStringS.l0 : Nat → List ByteArray → List ByteArray → Int → Option (Bool)
  | 0, _, _, _ => none
  | k + 1, x0, x1, x5 => if x5 < (x0.length : Int) then (if 0 ≤ x5 then (if x5 < (x1.length : Int) then (if (rdOf ByteArray.empty x0 x5).toList = (rdOf ByteArray.empty x1 x5).toList then (laws_eqStringS.l0 k x0 x1 (wrap64 (x5 + 1))) else (some false)) else (none)) else (none)) else (some true)
def laws_eqStringS.f (k : Nat) (l0 : List ByteArray) (l1 : List ByteArray) : Option (Bool) := if (l0.length : Int) = (l1.length : Int) then (laws_eqStringS.l0 k l0 l1 0) else (some false)
theorem laws_eqStringS.mono_l : ∀ k, (∀ y0 y1 y2, LeO (laws_eqStringS.l0 k y0 y1 y2) (laws_eqStringS.l0 (k + 1) y0 y1 y2))
  | 0 => fun _ _ _ r h => by simp [laws_eqStringS.l0] at h
  | k + 1 => by
    have ih0 := laws_eqStringS.mono_l k
    · intro y0 y1 y2
      unfold laws_eqStringS.l0
      repeat' first
      | (with_reducible exact ih0 _ _ _)
      | (with_reducible exact LeO.refl _)
      | (with_reducible exact LeO.none _)
      | (with_reducible refine LeO.ite ?_ ?_)
      | (with_reducible refine LeO.bind ?_ (fun _ => ?_))
      | exact ih0 _ _ _
      | exact LeO.none _
      | refine LeO.ite ?_ ?_
      | refine LeO.bind ?_ (fun _ => ?_)
theorem laws_eqStringS.mono : ∀ a0 a1 k, LeO (laws_eqStringS.f k a0 a1) (laws_eqStringS.f (k + 1) a0 a1) := by
  intro a0 a1 k
  have ih0 := laws_eqStringS.mono_l k
  unfold laws_eqStringS.f
  repeat' first
      | (with_reducible exact ih0 _ _ _)
      | (with_reducible exact LeO.refl _)
      | (with_reducible exact LeO.none _)
      | (with_reducible refine LeO.ite ?_ ?_)
      | (with_reducible refine LeO.bind ?_ (fun _ => ?_))
      | exact ih0 _ _ _
      | exact LeO.none _
      | refine LeO.ite ?_ ?_
      | refine LeO.bind ?_ (fun _ => ?_)
set_option maxHeartbeats 8000000 in
set_option maxRecDepth 100000 in
theorem laws_eqStringS.calls (k : Nat) (A0 : Option Addr) (c0 : Nat) (l0 : List ByteArray) (A1 : Option Addr) (c1 : Nat) (l1 : List ByteArray) (r : Bool) (w : World) (hr0 : Kd.C Kd.string w A0 l0.length l0) (hc0 : l0.length ≤ c0) (hr1 : Kd.C Kd.string w A1 l1.length l1) (hc1 : l1.length ≤ c1) (h : laws_eqStringS.f k l0 l1 = some r) :
    Calls Try.prog 30 #[.slice A0 l0.length c0, .slice A1 l1.length c1] w fun e w' => e = .returned (.bool r) ∧ Drawn0 w w' := by
  have HR0 := Aside0.mk hr0
  have HC0 := Aside0.mk hc0
  clear hr0 hc0
  have HR1 := Aside0.mk hr1
  have HC1 := Aside0.mk hc1
  clear hr1 hc1
  have H : (if (l0.length : Int) = (l1.length : Int) then (laws_eqStringS.l0 k l0 l1 0) else (some false)) = some r := h
  clear h
  by_cases c3 : (l0.length : Int) = (l1.length : Int)
  · rw [if_pos c3] at H
    have c3b0 : ((l0.length : Int) == (l1.length : Int)) = true := beq_iff_eq.mpr c3
    have c3b1 : ((l0.length : Int) != (l1.length : Int)) = false := bne_eq_false_iff_eq.mpr c3
    have c3b2 : (l0.length == l1.length) = true := by first | simpa using c3 | (simp at c3 ⊢; omega)
    clear c3
    have H' := Aside0.mk H
    clear H
    go_enter Try.func30, Try.ntmps30
    go_wp2
    repeat (go_quiet (fail); try go_wp2)
    go_loopg [5] k (fun kq v5 w' => ∃ (x5_1 : Int), v5 = .int .i64 x5_1 ∧ Aside0 (laws_eqStringS.l0 kq l0 l1 x5_1 = some r) ∧ Aside0 (kq ≤ k) ∧ Drawn0 w w')
    case atStart => exact ⟨(0), (by first | rfl | (simp; done) | (simp [*]; done)), H', ⟨Nat.le_refl _⟩, by repeat (first | exact Drawn0.refl _ | apply Drawn0.step)⟩
    case round =>
      clear H'
      try clear c1
      try clear p2
      try clear c3
      try clear c3b0
      try clear c3b1
      try clear c3b2
      obtain ⟨x5_1, rfl, HA, HK1, ⟨m1, rfl⟩⟩ := hrel
      cases gk with
      | zero => exact absurd HA.out (by simp [laws_eqStringS.l0])
      | succ k1 =>
        have H := HA.out
        clear HA
        simp only [laws_eqStringS.l0] at H
        by_cases c4 : x5_1 < (l0.length : Int)
        · rw [if_pos c4] at H
          have c4b0 : decide (x5_1 < (l0.length : Int)) = true := decide_eq_true c4
          clear c4
          by_cases c5 : 0 ≤ x5_1
          · rw [if_pos c5] at H
            have c5b0 : decide (0 ≤ x5_1) = true := decide_eq_true c5
            clear c5
            by_cases c6 : x5_1 < (l1.length : Int)
            · rw [if_pos c6] at H
              have c6b0 : decide (x5_1 < (l1.length : Int)) = true := decide_eq_true c6
              clear c6
              by_cases c7 : (rdOf ByteArray.empty l0 x5_1).toList = (rdOf ByteArray.empty l1 x5_1).toList
              · rw [if_pos c7] at H
                have c7b0 : ((rdOf ByteArray.empty l0 x5_1).toList == (rdOf ByteArray.empty l1 x5_1).toList) = true := beq_iff_eq.mpr c7
                have c7b1 : ((rdOf ByteArray.empty l0 x5_1).toList != (rdOf ByteArray.empty l1 x5_1).toList) = false := bne_eq_false_iff_eq.mpr c7
                clear c7
                have H' := Aside0.mk H
                clear H
                have p158 : 0 ≤ (x5_1 : Int) := of_decide_eq_true (by first | (with_reducible assumption) | assumption)
                have q158 : x5_1 < (l0.length : Int) := of_decide_eq_true (by first | (with_reducible assumption) | assumption)
                obtain ⟨ad158, e158, hx158_0⟩ := Kd.at_string HR0.out x5_1 p158 q158
                cases e158
                replace p158 := eq_true p158
                replace q158 := eq_true q158
                have p159 : 0 ≤ (x5_1 : Int) := of_decide_eq_true (by first | (with_reducible assumption) | assumption)
                have q159 : x5_1 < (l1.length : Int) := of_decide_eq_true (by first | (with_reducible assumption) | assumption)
                obtain ⟨ad159, e159, hx159_0⟩ := Kd.at_string HR1.out x5_1 p159 q159
                cases e159
                replace p159 := eq_true p159
                replace q159 := eq_true q159
                go_wp2
                repeat (go_quiet (fail); try go_wp2)
                go_roundg k1
                case measure => have := HK1.out; omega
                case rel => exact ⟨(wrap64 (x5_1 + 1)), (by first | rfl | (simp; done) | (simp [*]; done)), H', ⟨by have := HK1.out; omega⟩, by repeat (first | exact Drawn0.refl _ | apply Drawn0.step)⟩
              · rw [if_neg c7] at H
                have c7b0 : ((rdOf ByteArray.empty l0 x5_1).toList == (rdOf ByteArray.empty l1 x5_1).toList) = false := beq_eq_false_iff_ne.mpr c7
                have c7b1 : ((rdOf ByteArray.empty l0 x5_1).toList != (rdOf ByteArray.empty l1 x5_1).toList) = true := bne_iff_ne.mpr c7
                obtain rfl := Option.some.inj H
                have p158 : 0 ≤ (x5_1 : Int) := of_decide_eq_true (by first | (with_reducible assumption) | assumption)
                have q158 : x5_1 < (l0.length : Int) := of_decide_eq_true (by first | (with_reducible assumption) | assumption)
                obtain ⟨ad158, e158, hx158_0⟩ := Kd.at_string HR0.out x5_1 p158 q158
                cases e158
                replace p158 := eq_true p158
                replace q158 := eq_true q158
                have p159 : 0 ≤ (x5_1 : Int) := of_decide_eq_true (by first | (with_reducible assumption) | assumption)
                have q159 : x5_1 < (l1.length : Int) := of_decide_eq_true (by first | (with_reducible assumption) | assumption)
                obtain ⟨ad159, e159, hx159_0⟩ := Kd.at_string HR1.out x5_1 p159 q159
                cases e159
                replace p159 := eq_true p159
                replace q159 := eq_true q159
                go_wp2
                repeat (go_quiet (fail); try go_wp2)
                go_ret
                exact ⟨by first | rfl | (simp; done) | (simp [*]; done), by repeat (first | exact Drawn0.refl _ | apply Drawn0.step)⟩
            · rw [if_neg c6] at H
              exact absurd H (by simp)
          · rw [if_neg c5] at H
            exact absurd H (by simp)
        · rw [if_neg c4] at H
          have c4b0 : decide (x5_1 < (l0.length : Int)) = false := decide_eq_false c4
          clear c4
          obtain rfl := Option.some.inj H
          go_wp2
          repeat (go_quiet (fail); try go_wp2)
          go_ret
          exact ⟨by first | rfl | (simp; done) | (simp [*]; done), by repeat (first | exact Drawn0.refl _ | apply Drawn0.step)⟩
  · rw [if_neg c3] at H
    have c3b0 : ((l0.length : Int) == (l1.length : Int)) = false := beq_eq_false_iff_ne.mpr c3
    have c3b1 : ((l0.length : Int) != (l1.length : Int)) = true := bne_iff_ne.mpr c3
    have c3b2 : (l0.length == l1.length) = false := by first | simpa using c3 | (simp at c3 ⊢; omega)
    obtain rfl := Option.some.inj H
    go_enter Try.func30, Try.ntmps30
    go_wp2
    repeat (go_quiet (fail); try go_wp2)
    go_ret
    exact ⟨by first | rfl | (simp; done) | (simp [*]; done), by repeat (first | exact Drawn0.refl _ | apply Drawn0.step)⟩

/-! ### laws_markText: function 60 -/
def laws_markText.l0 : Nat → Int → ByteArray → Option (ByteArray)
  | 0, _, _ => none
  | k + 1, x0, x3 => if x0 > 0 then ((some (([(wrap64 (48 + (Int.tmod x0 10))) % 256] : List Int) : List Int)).bind fun y160 => (if (strOfNums y160).size + x3.size ≤ 9223372036854775807 then (laws_markText.l0 k (wrap64 (Int.tdiv x0 10)) ((strOfNums y160) ++ x3)) else (none))) else (if 1 + x3.size ≤ 9223372036854775807 then (some ((⟨#[109]⟩ : ByteArray) ++ x3)) else (none))
def laws_markText.f (k : Nat) (a0 : Int) : Option (ByteArray) := if a0 ≤ 0 then (some (⟨#[109, 48]⟩ : ByteArray)) else (laws_markText.l0 k a0 (⟨#[]⟩ : ByteArray))
theorem laws_markText.mono_l : ∀ k, (∀ y0 y1, LeO (laws_markText.l0 k y0 y1) (laws_markText.l0 (k + 1) y0 y1))
  | 0 => fun _ _ r h => by simp [laws_markText.l0] at h
  | k + 1 => by
    have ih0 := laws_markText.mono_l k
    · intro y0 y1
      unfold laws_markText.l0
      repeat' first
      | (with_reducible exact ih0 _ _)
      | (with_reducible exact LeO.refl _)
      | (with_reducible exact LeO.none _)
      | (with_reducible refine LeO.ite ?_ ?_)
      | (with_reducible refine LeO.bind ?_ (fun _ => ?_))
      | exact ih0 _ _
      | exact LeO.none _
      | refine LeO.ite ?_ ?_
      | refine LeO.bind ?_ (fun _ => ?_)
theorem laws_markText.mono : ∀ a0 k, LeO (laws_markText.f k a0) (laws_markText.f (k + 1) a0) := by
  intro a0 k
  have ih0 := laws_markText.mono_l k
  unfold laws_markText.f
  repeat' first
      | (with_reducible exact ih0 _ _)
      | (with_reducible exact LeO.refl _)
      | (with_reducible exact LeO.none _)
      | (with_reducible refine LeO.ite ?_ ?_)
      | (with_reducible refine LeO.bind ?_ (fun _ => ?_))
      | exact ih0 _ _
      | exact LeO.none _
      | refine LeO.ite ?_ ?_
      | refine LeO.bind ?_ (fun _ => ?_)
set_option maxHeartbeats 8000000 in
set_option maxRecDepth 100000 in
theorem laws_markText.calls (k : Nat) (a0 : Int) (r : ByteArray) (w : World) (h : laws_markText.f k a0 = some r) :
    Calls Try.prog 60 #[.int .i64 a0] w fun e w' => e = .returned (.string r) ∧ Below w.heap.size w w' := by
  have HB := Aside0.mk (Below.refl w.heap.size w)
  have H : (if a0 ≤ 0 then (some (⟨#[109, 48]⟩ : ByteArray)) else (laws_markText.l0 k a0 (⟨#[]⟩ : ByteArray))) = some r := h
  clear h
  by_cases c2 : a0 ≤ 0
  · rw [if_pos c2] at H
    have c2b0 : decide (a0 ≤ 0) = true := decide_eq_true c2
    clear c2
    obtain rfl := Option.some.inj H
    go_enter Try.func60, Try.ntmps60
    go_wp2
    go_ret
    exact ⟨by first | rfl | (simp [errW_none, errW_some] <;> rfl) | (simp [*, errW_none, errW_some] <;> rfl), by repeat (first | (with_reducible first | exact HB.out | apply below_alloc | apply pw_below_drewN | apply below_drew1) | exact HB.out)⟩
  · rw [if_neg c2] at H
    have c2b0 : decide (a0 ≤ 0) = false := decide_eq_false c2
    clear c2
    have H' := Aside0.mk H
    clear H
    go_enter Try.func60, Try.ntmps60
    go_wp2
    go_loopg [0, 3] k (fun kq v0 v3 w' => ∃ (x0_1 : Int) (x3_1 : ByteArray), v0 = .int .i64 x0_1 ∧ v3 = .string x3_1 ∧ Aside0 (laws_markText.l0 kq x0_1 x3_1 = some r) ∧ Aside0 (kq ≤ k) ∧ Aside0 (Below w.heap.size w w'))
    case atStart => exact ⟨(a0), ((⟨#[]⟩ : ByteArray)), (by first | rfl | (simp; done) | (simp [*]; done)), (by first | rfl | (simp; done) | (simp [*]; done)), H', ⟨Nat.le_refl _⟩, ⟨by repeat (first | (with_reducible first | exact HB.out | apply below_alloc | apply pw_below_drewN | apply below_drew1) | exact HB.out)⟩⟩
    case round =>
      clear H'
      try clear c2
      try clear c2b0
      try clear p2
      obtain ⟨x0_1, x3_1, rfl, rfl, HA, HK1, HB⟩ := hrel
      cases gk with
      | zero => exact absurd HA.out (by simp [laws_markText.l0])
      | succ k1 =>
        have H := HA.out
        clear HA
        simp only [laws_markText.l0] at H
        by_cases c3 : x0_1 > 0
        · rw [if_pos c3] at H
          have c3b0 : decide (0 < x0_1) = true := decide_eq_true c3
          clear c3
          obtain ⟨y160, hy160⟩ : ∃ y_ : List Int, y_ = (([(wrap64 (48 + (Int.tmod x0_1 10))) % 256] : List Int)) := ⟨_, rfl⟩
          replace H : (if (strOfNums y160).size + x3_1.size ≤ 9223372036854775807 then (laws_markText.l0 k1 (wrap64 (Int.tdiv x0_1 10)) ((strOfNums y160) ++ x3_1)) else (none)) = some r := by first | (rw [hy160]; with_reducible exact H) | (have H2_ := (Option.bind_some _ _).symm.trans H; rw [hy160]; with_reducible exact H2_) | (have H2_ := (Option.bind_some _ _).symm.trans H; with_reducible exact H2_) | with_reducible exact H | (rw [hy160]; exact H) | exact H
          have Ny160 := Aside0.mk hy160
          clear hy160
          by_cases c4 : (strOfNums y160).size + x3_1.size ≤ 9223372036854775807
          · rw [if_pos c4] at H
            have c4b0 := eq_true c4
            have c4b1 : decide ((strOfNums y160).size + x3_1.size ≤ 9223372036854775807) = true := decide_eq_true c4
            try have c4b2 : (9223372036854775807 < (strOfNums y160).size + x3_1.size) = False := eq_false (Nat.not_lt.2 c4)
            have H' := Aside0.mk H
            clear H
            go_wp2_with (first | ((with_reducible refine gate_dst (N := 12) rfl ?_); refine Kd.R_lit (Kd.int .u8) _ 5 ?hg (N := 12) ?hd (xs := ([(wrap64 (48 + (Int.tmod x0_1 10))) % 256] : List Int)) (inner := [.int .u8 ((wrap64 (48 + (Int.tmod x0_1 10))) % 256)]) (ok := fun _ => True) (okp := fun _ => True) ?hr ?hp (fun _ hk => hk) trivial (Below.refl _ _) (Nat.le_refl _) (by simp) ?_; (case hd => rfl); (case hg => rfl); (case hr => first | (go_simp; done) | (go_simp; rfl)); (case hp => exact (Reps.one (show Kd.M (Kd.int .u8) _ _ _ ((wrap64 (48 + (Int.tmod x0_1 10))) % 256) [.int .u8 ((wrap64 (48 + (Int.tmod x0_1 10))) % 256)] from rfl) (Reps.none _ _))); intro v161 w5 ho6 hb hg_ hnew_; clear hg_ hnew_; (first | rw [← Ny160.out] at ho6 | (simp only [Int.reduceToNat] at ho6; rw [← Ny160.out] at ho6)); have n0_ := Aside0.mk (Kd.R_lower ho6 (below_size (by repeat (first | (with_reducible first | exact HB.out | apply below_alloc | apply pw_below_drewN | apply below_drew1) | exact HB.out)))); have n1_ := Aside0.mk (below_step (by repeat (first | (with_reducible first | exact HB.out | apply below_alloc | apply pw_below_drewN | apply below_drew1) | exact HB.out)) hb); clear HB; have HO162 := n0_; have HB := n1_; clear n0_ n1_; clear hb ho6; have hcv7 := own_string (P := Try.prog) Try.underlying47 Try.underlying5 Try.underlying9 (Kd.own_of_R HO162.out)))
            go_roundg k1
            case measure => have := HK1.out; omega
            case rel => exact ⟨(wrap64 (Int.tdiv x0_1 10)), ((strOfNums y160) ++ x3_1), (by first | rfl | (simp; done) | (simp [*]; done)), (by first | rfl | (simp; done) | (simp [*]; done)), H', ⟨by have := HK1.out; omega⟩, ⟨by repeat (first | (with_reducible first | exact HB.out | apply below_alloc | apply pw_below_drewN | apply below_drew1) | exact HB.out)⟩⟩
          · rw [if_neg c4] at H
            exact absurd H (by simp)
        · rw [if_neg c3] at H
          have c3b0 : decide (0 < x0_1) = false := decide_eq_false c3
          clear c3
          by_cases c8 : 1 + x3_1.size ≤ 9223372036854775807
          · rw [if_pos c8] at H
            have c8b0 := eq_true c8
            have c8b1 : decide (1 + x3_1.size ≤ 9223372036854775807) = true := decide_eq_true c8
            try have c8b2 : (9223372036854775807 < 1 + x3_1.size) = False := eq_false (Nat.not_lt.2 c8)
            obtain rfl := Option.some.inj H
            go_wp2
            go_ret
            exact ⟨by first | rfl | (simp [errW_none, errW_some] <;> rfl) | (simp [*, errW_none, errW_some] <;> rfl), by repeat (first | (with_reducible first | exact HB.out | apply below_alloc | apply pw_below_drewN | apply below_drew1) | exact HB.out)⟩
          · rw [if_neg c8] at H
            exact absurd H (by simp)

end Go.Proofs.Ytpopjdoljpianaa.PFnExactAllMade
