import Derived.Test.YtciaocdpojnmcaaGreatDoorKI49
namespace Go.Proofs.YtciaocdpojnmcaaGreatDoor.P
open Go.RowKit Go.Proofs.YtciaocdpojnmcaaGreatDoorW.PrintWords Go.Proofs.YtciaocdpojnmcaaGreatDoorW.PrintLast
set_option linter.unusedVariables false
set_option linter.unusedSimpArgs false
set_option maxRecDepth 20000
theorem bt_front (c : UInt8) (a : ByteArray) (h : 0 < a.size) (hb : bt a 0 = (c.toNat : Int)) : ∃ y, a.data.toList = c :: y := by
  have h2 := bt_get a 0 h
  rw [show ((0 : Nat) : Int) = 0 from rfl, hb] at h2
  refine ⟨a.data.toList.drop 1, ?_⟩
  have h3 := drop_cons a 0 h
  rw [List.drop_zero] at h3
  rw [h3]
  congr 1
  exact UInt8.toNat_inj.1 (by exact_mod_cast h2)
/-- The two forms of a decimal. -/
theorem decS_form (a : ByteArray) (h : decS a = true) : (decP a = 0 ∧ ∃ n, a.data.toList = Lib.decDigits n) ∨ (decP a = 1 ∧ ∃ n, 1 ≤ n ∧ a.data.toList = 45 :: Lib.decDigits n) := by
  by_cases hc : 0 < a.size ∧ bt a 0 = 45
  · right
    have hp : decP a = 1 := by unfold decP; rw [if_pos hc]
    refine ⟨hp, ?_⟩
    obtain ⟨y, hy⟩ := bt_front 45 a hc.1 hc.2
    unfold decS at h
    rw [hp, Bool.and_eq_true, Bool.and_eq_true, decide_eq_true_iff, decide_eq_true_iff] at h
    obtain ⟨⟨h1, h2⟩, h3⟩ := h
    have hall := all_drop isD a (a.size - 1) 1 (by omega)
    rw [h2, hy] at hall
    have hsz : a.size = y.length + 1 := by rw [Lib.size_eq, hy]; rfl
    have hne : y ≠ [] := fun e => by rw [e] at hsz; simp at hsz; omega
    have hd : ∀ b ∈ y, 48 ≤ b.toNat ∧ b.toNat ≤ 57 := by
      intro b hb
      have := List.all_eq_true.1 hall b hb
      unfold isD at this
      have := of_decide_eq_true this
      omega
    have hz : ∀ r, y ≠ 48 :: r := by
      intro r e
      have hb := bt_get a 1 (by omega)
      have hg : a[1] = 48 := by
        have h4 := drop_cons a 1 (by omega)
        rw [hy, e] at h4
        injection h4 with e1 _
        exact e1.symm
      rw [hg] at hb
      rcases h3 with h3 | h3
      · exact h3 hb.symm
      · omega
    obtain ⟨n, hn⟩ := dd_of y.length y rfl hne hd (fun r e => absurd e (hz r))
    refine ⟨n, ?_, by rw [hy, hn]⟩
    rcases Nat.eq_zero_or_pos n with e | e
    · subst e
      rw [Lib.decDigits_one (by omega)] at hn
      exact absurd hn (hz [])
    · exact e
  · left
    have hp : decP a = 0 := by unfold decP; rw [if_neg hc]
    refine ⟨hp, ?_⟩
    have h' := h
    rw [← mkB_of a] at h'
    have hne := decS_ne h'
    have hsz : 0 < a.size := by rw [Lib.size_eq]; exact List.length_pos_iff.2 hne
    refine (decS_iff _ (decS_no45 _ h' (fun e => hc ⟨hsz, ?_⟩))).1 h'
    rwa [mkB_of] at e
theorem decS_neg (n : Nat) (hn : 1 ≤ n) : decS (mkB (45 :: Lib.decDigits n)) = true ∧ decP (mkB (45 :: Lib.decDigits n)) = 1 := by
  have hp : decP (mkB (45 :: Lib.decDigits n)) = 1 := by
    unfold decP
    rw [if_pos ⟨by rw [mkB_size]; simp, by rw [bt_zero]; rfl⟩]
  refine ⟨?_, hp⟩
  obtain ⟨b, r, e, hb⟩ := dd_head n hn
  have hall := all_drop isD (mkB (45 :: Lib.decDigits n)) ((mkB (45 :: Lib.decDigits n)).size - 1) 1 (by rw [mkB_size]; simp; omega)
  have hd : ((mkB (45 :: Lib.decDigits n)).data.toList.drop 1).all (fun b => isD (b.toNat : Int)) = true := by
    rw [mkB_data, List.drop_succ_cons, List.drop_zero, List.all_eq_true]
    intro x hx
    have := dd_digits n x hx
    exact decide_eq_true (by omega)
  rw [hd] at hall
  have h1 : bt (mkB (45 :: Lib.decDigits n)) ((1 : Nat) : Int) = (b.toNat : Int) := by
    have h2 := bt_get (mkB (45 :: Lib.decDigits n)) 1 (by rw [mkB_size, e]; simp)
    rw [← h2]
    have h4 := drop_cons (mkB (45 :: Lib.decDigits n)) 1 (by rw [mkB_size, e]; simp)
    rw [mkB_data, List.drop_succ_cons, List.drop_zero] at h4
    have h5 := h4.symm.trans e
    injection h5 with e1 _
    rw [e1]
  unfold decS
  rw [hp, ← hall, Bool.and_eq_true, Bool.and_eq_true, decide_eq_true_iff, decide_eq_true_iff]
  refine ⟨⟨by rw [mkB_size, e]; simp, rfl⟩, .inl ?_⟩
  rw [h1]
  intro e2
  exact hb (UInt8.toNat_inj.1 (show b.toNat = (48 : UInt8).toNat from by exact_mod_cast e2))
theorem vl_neg (n : Nat) : vl (mkB (45 :: Lib.decDigits n)) ((mkB (45 :: Lib.decDigits n)).size - 1) 1 0 = (n : Int) := by
  rw [vl_fv _ _ _ _ (by rw [mkB_size]; simp; omega), mkB_data, List.drop_succ_cons, List.drop_zero, fv_dd]
theorem itoa_neg (x : Int) (h : x < 0) : Lib.itoa x = 45 :: Lib.decDigits x.natAbs := by
  unfold Lib.itoa
  rw [if_pos h]
theorem inv_ID (n : Int) (h0 : -9223372036854775808 ≤ n) (h1 : n ≤ 9223372036854775807) : intS (mkB (Lib.itoa n)) n n = (n, 0) := by
  by_cases hn : n < 0
  · rw [itoa_neg n hn]
    obtain ⟨e1, e2⟩ := decS_neg n.natAbs (by omega)
    unfold intS
    rw [if_neg (by rw [e1]; decide), if_pos e2, vl_neg, if_neg (by omega), if_neg (by omega), show -((n.natAbs : Nat) : Int) = n by omega]
  · rw [itoa_pos n (by omega)]
    obtain ⟨e1, e2⟩ := dd_good n.toNat
    unfold intS
    rw [if_neg (by rw [e1]; decide), if_neg (by rw [e2]; decide), vl_dd, if_neg (by omega), if_neg (by omega), show ((n.toNat : Nat) : Int) = n by omega]
theorem inv_DI (a : ByteArray) (lo hi : Int) (h : (intS a lo hi).2 = 0) : mkB (Lib.itoa (intS a lo hi).1) = a := by
  by_cases hd : decS a = false
  · unfold intS at h
    rw [if_pos hd] at h
    exact absurd h (by decide)
  · have hd' : decS a = true := by simpa using hd
    rcases decS_form a hd' with ⟨hp, n, hn⟩ | ⟨hp, n, hn1, hn⟩
    · have ha : a = mkB (Lib.decDigits n) := by rw [← mkB_of a, hn]
      unfold intS at h ⊢
      rw [if_neg hd, if_neg (by rw [hp]; decide)] at h ⊢
      rw [ha, vl_dd] at h ⊢
      split
      · rename_i h2; rw [if_pos h2] at h; exact absurd h (by decide)
      · rename_i h2
        rw [if_neg h2] at h
        split
        · rename_i h3; rw [if_pos h3] at h; exact absurd h (by decide)
        · show mkB (Lib.itoa (n : Int)) = _
          rw [itoa_pos _ (by omega), Int.toNat_natCast]
    · have ha : a = mkB (45 :: Lib.decDigits n) := by rw [← mkB_of a, hn]
      unfold intS at h ⊢
      rw [if_neg hd, if_pos hp] at h ⊢
      rw [ha, vl_neg] at h ⊢
      split
      · rename_i h2; rw [if_pos h2] at h; exact absurd h (by decide)
      · rename_i h2
        rw [if_neg h2] at h
        split
        · rename_i h3; rw [if_pos h3] at h; exact absurd h (by decide)
        · show mkB (Lib.itoa (-(n : Int))) = _
          rw [itoa_neg _ (by omega), show (-(n : Int)).natAbs = n by omega]
end Go.Proofs.YtciaocdpojnmcaaGreatDoor.P
