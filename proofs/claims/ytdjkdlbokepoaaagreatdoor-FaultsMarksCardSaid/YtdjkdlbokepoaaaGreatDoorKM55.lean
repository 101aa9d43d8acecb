import Derived.Test.YtdjkdlbokepoaaaGreatDoorKM54
import Derived.Test.YtdjkdlbokepoaaaGreatDoorKM36
import Derived.Test.YtdjkdlbokepoaaaGreatDoorKM37
import Derived.Test.YtdjkdlbokepoaaaGreatDoorKM48
namespace Go.Proofs.YtdjkdlbokepoaaaGreatDoor.P
open Go.RowKit Go.Proofs.YtdjkdlbokepoaaaGreatDoorW.PrintWords Go.Proofs.YtdjkdlbokepoaaaGreatDoorW.PrintLast Go.Proofs.YtdjkdlbokepoaaaGreatDoorW.PrintMore Sc
set_option linter.unusedVariables false
set_option linter.unusedSimpArgs false
set_option maxRecDepth 20000
theorem crossed_f (l : List Int) (hl : l.length ≤ 100000) (F te a : Nat) (h2 : F ≤ a) (h3 : a < l.length) (h4 : te ≤ l.length) (h5 : te = l.length ∨ lb l te = 10) (hn : ∀ i, F ≤ i → i < te → lb l i ≠ 10) (hF : F ≤ te) :
    ∀ (d i : Nat), F ≤ i → i + d = min te (a + 1) → ∀ k, 2 * d + 3 ≤ k → mummerlaw08_crossed.l0 k l ((a : Int) + 1) (i : Int) = some (decide (te ≤ a)) := by
  intro d
  induction d with
  | zero =>
    intro i hi hd k hk
    obtain ⟨k, rfl⟩ : ∃ K, k = K + 1 + 1 := ⟨k - 2, by omega⟩
    by_cases c : te ≤ a
    · obtain rfl : i = te := by omega
      rw [mummerlaw08_crossed.l0, if_pos (by omega), decide_eq_true (show (i : Int) < (l.length : Int) by omega), mummerlaw08_crossed.j1, if_pos rfl, if_pos (by omega), if_pos (by omega), rd_bt, if_pos (by rcases h5 with h | h; omega; exact h), decide_eq_true c]
    · obtain rfl : i = a + 1 := by omega
      rw [mummerlaw08_crossed.l0, if_neg (by omega), mummerlaw08_crossed.j1, if_neg (by decide), decide_eq_false c]
  | succ d ih =>
    intro i hi hd k hk
    obtain ⟨k, rfl⟩ : ∃ K, k = K + 1 + 1 := ⟨k - 2, by omega⟩
    rw [mummerlaw08_crossed.l0, if_pos (by omega), decide_eq_true (show (i : Int) < (l.length : Int) by omega), mummerlaw08_crossed.j1, if_pos rfl, if_pos (by omega), if_pos (by omega), rd_bt, if_neg (hn i hi (by omega)), w64 (by omega) (by omega), show (i : Int) + 1 = ((i + 1 : Nat) : Int) by omega]
    exact ih (i + 1) (by omega) (by omega) k (by omega)
theorem part_f (l : List Int) (hl : l.length ≤ 100000) (z te : Nat) (h1 : z ≤ te) (h2 : te ≤ l.length) :
    ∀ (d i : Nat), i + d = z → ∀ k, d < k → mummerlaw08_part.l0 k l (strOfNums ((l.take te).drop z)) (i : Int) = some true := by
  have hs : (strOfNums ((l.take te).drop z)).size = te - z := by rw [strOfNums_size, List.length_drop, List.length_take]; omega
  intro d
  induction d with
  | zero =>
    intro i hi k hk
    obtain rfl : i = z := by omega
    obtain ⟨k, rfl⟩ : ∃ K, k = K + 1 := ⟨k - 1, by omega⟩
    rw [mummerlaw08_part.l0, hs, w64 (n := (i : Int) + ((te - i : Nat) : Int)) (by omega) (by omega), show (i : Int) + ((te - i : Nat) : Int) = (te : Int) by omega, if_pos (by omega), if_pos (by omega), if_pos (by omega), Int.toNat_natCast, Int.toNat_natCast, if_pos rfl]
  | succ d ih =>
    intro i hi k hk
    obtain ⟨k, rfl⟩ : ∃ K, k = K + 1 := ⟨k - 1, by omega⟩
    rw [mummerlaw08_part.l0, hs, w64 (n := (i : Int) + ((te - z : Nat) : Int)) (by omega) (by omega), if_pos (by omega), if_pos (by omega), if_pos (by omega)]
    split
    · rfl
    · rw [w64 (by omega) (by omega), show (i : Int) + 1 = ((i + 1 : Nat) : Int) by omega]
      exact ih (i + 1) (by omega) k (by omega)
theorem marked_f (X : ByteArray) (m : Nat) (hX : X.size ≤ 100000) (hm : m ≤ 100000) (x : UInt8) (pre : List UInt8) (hp : X.data.toList = pre ++ [x]) (hx : x ≠ 94) :
    ∀ (d i : Nat), i + d = m → ∀ k, d < k → mummerlaw08_marked.l0 k (X ++ rep 94 m) (i : Int) = some (m : Int) := by
  have hs : (X ++ rep 94 m).size = X.size + m := by rw [ByteArray.size_append, rep_size]
  have hl : X.size = pre.length + 1 := by
    have : X.data.toList.length = X.size := by simp
    rw [← this, hp]; simp
  have hd : (X ++ rep 94 m).data.toList = pre ++ ([x] ++ List.replicate m 94) := by
    rw [appData, hp, List.append_assoc]
    have : (rep 94 m).data.toList = List.replicate m 94 := by unfold rep; simp
    rw [this]
  intro d
  induction d with
  | zero =>
    intro i hi k hk
    obtain rfl : i = m := by omega
    obtain ⟨k, rfl⟩ : ∃ K, k = K + 1 := ⟨k - 1, by omega⟩
    have hb : bt (X ++ rep 94 i) ((pre.length : Nat) : Int) = (x.toNat : Int) := bt_get _ _ _ (by
      rw [hd, List.getElem?_append_right (by omega), Nat.sub_self]; rfl)
    rw [mummerlaw08_marked.l0, hs, if_pos (by omega), w64 (n := ((X.size + i : Nat) : Int) - 1) (by omega) (by omega), w64 (by omega) (by omega), show ((X.size + i : Nat) : Int) - 1 - (i : Int) = ((pre.length : Nat) : Int) by omega, if_pos (by omega), if_pos (by omega), hb, if_neg (fun h => hx (by
      apply UInt8.toNat_inj.1
      show x.toNat = 94
      omega))]
  | succ d ih =>
    intro i hi k hk
    obtain ⟨k, rfl⟩ : ∃ K, k = K + 1 := ⟨k - 1, by omega⟩
    have hb : bt (X ++ rep 94 m) ((X.size + m - 1 - i : Nat) : Int) = 94 := bt_get _ _ 94 (by
      rw [hd, List.getElem?_append_right (by omega), List.getElem?_append_right (by simp; omega), List.getElem?_replicate, if_pos (by simp; omega)])
    rw [mummerlaw08_marked.l0, hs, if_pos (by omega), w64 (n := ((X.size + m : Nat) : Int) - 1) (by omega) (by omega), w64 (n := ((X.size + m : Nat) : Int) - 1 - (i : Int)) (by omega) (by omega), show ((X.size + m : Nat) : Int) - 1 - (i : Int) = ((X.size + m - 1 - i : Nat) : Int) by omega, if_pos (by omega), if_pos (by omega), hb, if_pos rfl, w64 (by omega) (by omega), show (i : Int) + 1 = ((i + 1 : Nat) : Int) by omega]
    exact ih (i + 1) (by omega) k (by omega)
theorem rsN_diff (l : List Int) (z : Nat) : ∀ d, rsN l (z + d) ≤ rsN l z + d
  | 0 => Nat.le_refl _
  | d + 1 => by
    have := rsN_diff l z d
    rw [show z + (d + 1) = (z + d) + 1 by omega, rsN]
    split <;> omega
theorem cwN_diff (l : List Int) (C : Nat → Bool) (z : Nat) : ∀ d, cwN l C (z + d) ≤ cwN l C z + d
  | 0 => Nat.le_refl _
  | d + 1 => by
    have := cwN_diff l C z d
    rw [show z + (d + 1) = (z + d) + 1 by omega, cwN]
    split <;> omega
theorem ckL_mono {n m : Int} (hnm : n ≤ m) : ∀ (r : List S41) (i : Nat), (ckL n r i).2 = 0 → (ckL m r i).2 = 0
  | [], i, h => rfl
  | y :: r, i, h => by
    rw [ckL] at h ⊢
    by_cases c : errF n y i = 0
    · rw [if_pos c] at h
      have ok := errF_ok c
      rw [if_pos (errF_of (by omega) ok.2.1 ok.2.2.1 ok.2.2.2)]
      exact ckL_mono hnm r (i + 1) h
    · rw [if_neg c] at h
      exact absurd h c
theorem chk_mono {n m : Int} (hnm : n ≤ m) {l : List S41} (h : (chkV n l).2 = 0) : (chkV m l).2 = 0 := by
  unfold chkV at h ⊢
  by_cases c : l.length > 50
  · rw [if_pos c] at h; cases h
  · rw [if_neg c] at h ⊢
    exact ckL_mono hnm l 0 h
theorem chain_f (l1 : List S41) (a : Int) (k : Nat) (hk : 200 ≤ k) (hc : (chkV 8000 l1).2 = 0) (h0 : 0 ≤ a) (h1 : a < (l1.length : Int)) : faults_Chain.f k l1 a = some (chainG l1 l1.length a, 0) := by
  have hn := (chk_ok _ _ hc).1
  unfold faults_Chain.f faults_known.f
  rw [check_f _ _ _ hk, Option.bind_some, if_pos hc, if_neg (by omega), if_neg (by omega), Option.bind_some, if_pos hc, if_pos ⟨chk_downs hc, h0, h1, by omega⟩]
theorem ext_two (S : ByteArray) : (sp2 ++ S).extract 2 (sp2 ++ S).size = S := by
  have h := ext_mid (sp2 ++ S) [32, 32] S.data.toList [] (by
    rw [appData]
    have : sp2.data.toList = [32, 32] := rfl
    rw [this]; simp)
  have c : sp2.size = 2 := rfl
  have e : S.data.toList.length = S.size := by simp
  rw [mkD, e] at h
  rw [ByteArray.size_append, c]
  exact h
theorem last_space (n : Nat) : ∃ pre : List UInt8, (sp2 ++ rep 32 n).data.toList = pre ++ [32] := by
  have e2 : sp2.data.toList = List.replicate 2 32 := rfl
  have e : (rep 32 n).data.toList = List.replicate n 32 := by unfold rep; simp
  refine ⟨List.replicate (n + 1) 32, ?_⟩
  rw [appData, e2, e, List.replicate_append_replicate, show ([32] : List UInt8) = List.replicate 1 32 from rfl, List.replicate_append_replicate, show 2 + n = n + 1 + 1 by omega]
section
variable {l : List Int} {rs : List (Nat × Nat)} {l1 : List S41}
theorem marks_tail (hI : Sc.InB l = true) (hl : l.length ≤ 300) (hr : GR l 0 rs) (c : List Int) (xs : List ByteArray) (hxl : xs.length = 3 * c.length) (hcl : c.length ≤ 100) (F te : Nat) (T : Int) (h2 : F ≤ te) (h3 : te ≤ l.length) (hn : ∀ i, begN l F ≤ i → i < te → lb l i ≠ 10) (j : Nat) (hj : j < c.length)
    (hB : xs[3 * j + 1]? = some (sp2 ++ strOfNums ((l.take te).drop (begN l F)))) (hC : xs[3 * j + 2]? = some ((sp2 ++ rep 32 (colV l F - 1).toNat) ++ rep 94 (max (cwN l (mkC F T) te) 1)))
    (st : List Int) (i : Int) (hi : (st.length : Int) ≤ i) (u : Int) (k : Nat) (hk : 10000 ≤ k) (hnext : mummerlaw08_FaultsMarks.l0 k l l1 c xs st ((j + 1 : Nat) : Int) = some true) :
    mummerlaw08_FaultsMarks.l1 (k + 1) l l1 c xs st j (colV l F) 0 (cwN l (mkC F T) te) i F T = some true := by
  have hcol := colV_range hI hr F (by omega)
  have hw := cwN_le l (mkC F T) te
  have b1 := begN_le l F
  have c2 : sp2.size = 2 := rfl
  have e1 : rdOf ByteArray.empty xs ((3 * (j : Int)) + 1) = sp2 ++ strOfNums ((l.take te).drop (begN l F)) := by
    show xs.getD ((3 * (j : Int)) + 1).toNat _ = _
    rw [show ((3 * (j : Int)) + 1).toNat = 3 * j + 1 by omega, List.getD_eq_getElem?_getD, hB]; rfl
  have e2 : rdOf ByteArray.empty xs ((3 * (j : Int)) + 2) = (sp2 ++ rep 32 (colV l F - 1).toNat) ++ rep 94 (max (cwN l (mkC F T) te) 1) := by
    show xs.getD ((3 * (j : Int)) + 2).toNat _ = _
    rw [show ((3 * (j : Int)) + 2).toNat = 3 * j + 2 by omega, List.getD_eq_getElem?_getD, hC]; rfl
  have sB : (sp2 ++ strOfNums ((l.take te).drop (begN l F))).size = 2 + (te - begN l F) := by
    rw [ByteArray.size_append, strOfNums_size, List.length_drop, List.length_take, c2]; omega
  have sC : ((sp2 ++ rep 32 (colV l F - 1).toNat) ++ rep 94 (max (cwN l (mkC F T) te) 1)).size = 2 + (colV l F - 1).toNat + max (cwN l (mkC F T) te) 1 := by
    rw [ByteArray.size_append, ByteArray.size_append, rep_size, rep_size, c2]
  have mw : mx ((cwN l (mkC F T) te : Nat) : Int) 1 = ((max (cwN l (mkC F T) te) 1 : Nat) : Int) := by unfold mx; split <;> omega
  have pf := part_f l (by omega) (begN l F) te (by omega) h3 (begN l F) 0 (by omega) k (by omega)
  rw [show ((0 : Nat) : Int) = 0 from rfl] at pf
  obtain ⟨pre, hpre⟩ := last_space (colV l F - 1).toNat
  have mf := marked_f (sp2 ++ rep 32 (colV l F - 1).toNat) (max (cwN l (mkC F T) te) 1) (by rw [ByteArray.size_append, rep_size, c2]; omega) (by omega) 32 pre hpre (by decide) (max (cwN l (mkC F T) te) 1) 0 (by omega) k (by omega)
  rw [show ((0 : Nat) : Int) = 0 from rfl] at mf
  -- the marks do not go beyond the line
  have d1 := rsN_diff l (begN l F) (bckN l F - begN l F)
  have d2 := bckN_le l F
  obtain ⟨st', z', m', rf', P'⟩ := plc hI hr F (by omega)
  have d3 := P'.le1
  rw [P'.beg, P'.bck] at d3
  rw [show begN l F + (bckN l F - begN l F) = bckN l F by omega] at d1
  have d4 := cwN_diff l (mkC F T) F (te - F)
  have d5 : cwN l (mkC F T) F = 0 := by
    have := cwN_no l (mkC F T) 0 F (fun i _ h2 h => by
      have := of_decide_eq_true h.2
      omega)
    rw [Nat.zero_add] at this
    rw [this]; rfl
  rw [show F + (te - F) = te by omega, d5] at d4
  have hcv : colV l F = ((rsN l (bckN l F) : Nat) : Int) - ((rsN l (begN l F) : Nat) : Int) + 1 := rfl
  rw [mummerlaw08_FaultsMarks.l1, if_neg (by omega), w64 (n := 3 * (j : Int)) (by omega) (by omega), w64 (n := 3 * (j : Int) + 1) (by omega) (by omega), w64 (n := 3 * (j : Int) + 2) (by omega) (by omega), if_pos (by omega), if_pos (by omega), if_pos (by omega), if_pos (by omega), if_pos rfl, e1, e2, ext_two, sB, if_neg (by omega), if_pos (by omega)]
  unfold mummerlaw08_part.f mummerlaw08_marked.f
  rw [pf, Option.bind_some, if_pos rfl, mf, Option.bind_some, mw, if_pos rfl, sC, w64 (n := 2 + colV l F) (by omega) (by omega), w64 (n := 2 + colV l F - 1) (by omega) (by omega), w64 (n := 2 + colV l F - 1 + _) (by omega) (by omega), if_pos (by omega), w64 (n := ((2 + (te - begN l F) : Nat) : Int) + 1) (by omega) (by omega), if_neg (by omega), w64 (n := (j : Int) + 1) (by omega) (by omega), show (j : Int) + 1 = ((j + 1 : Nat) : Int) by omega]
  exact hnext
theorem marks_l1 (hI : Sc.InB l = true) (hl : l.length ≤ 300) (hr : GR l 0 rs) (c : List Int) (xs : List ByteArray) (hxl : xs.length = 3 * c.length) (hcl : c.length ≤ 100) (F te : Nat) (T : Int) (h2 : F ≤ te) (h3 : te ≤ l.length) (h4 : te = l.length ∨ lb l te = 10) (hn : ∀ i, begN l F ≤ i → i < te → lb l i ≠ 10) (j : Nat) (hj : j < c.length)
    (hB : xs[3 * j + 1]? = some (sp2 ++ strOfNums ((l.take te).drop (begN l F)))) (hC : xs[3 * j + 2]? = some ((sp2 ++ rep 32 (colV l F - 1).toNat) ++ rep 94 (max (cwN l (mkC F T) te) 1))) (C : Nat → Bool) (hCC : ∀ a : Nat, C a = decide ((F ≤ a ∧ (a : Int) < T) ∧ a < te))
    (Bd : Nat) (hBd : 10000 ≤ Bd) (hnext : ∀ k, Bd ≤ k → mummerlaw08_FaultsMarks.l0 k l l1 c xs (SL l rs) ((j + 1 : Nat) : Int) = some true) :
    ∀ (d i : Nat), i + d = rs.length → ∀ k, Bd + 2 + d ≤ k → mummerlaw08_FaultsMarks.l1 k l l1 c xs (SL l rs) j (colV l F) 0 (cwN l C (PP l rs i)) i F T = some true := by
  have hrl := hr.len
  have b1 := begN_le l F
  intro d
  induction d with
  | zero =>
    intro i hi k hk
    obtain ⟨k, rfl⟩ : ∃ K, k = K + 1 + 1 := ⟨k - 2, by omega⟩
    have hp : PP l rs i = l.length := by
      unfold PP
      rw [List.getD_eq_getElem?_getD, List.getElem?_append_right (by simp; omega)]
      simp
      rw [show i - rs.length = 0 by omega]; rfl
    have e1 : cwN l C l.length = cwN l (mkC F T) te := by
      have h1 := cwN_no l C te (l.length - te) (fun i a b h => by
        rw [hCC] at h
        have := of_decide_eq_true h.2
        omega)
      rw [show te + (l.length - te) = l.length by omega] at h1
      rw [h1]
      exact cwN_congr l _ _ te fun i hi => by rw [hCC]; exact decide_eq_decide.2 (by omega)
    have tl := marks_tail (l1 := l1) hI hl hr c xs hxl hcl F te T h2 h3 hn j hj hB hC (SL l rs) ((i : Int) + 1) (by rw [SL_len]; omega) 0 k (by omega) (hnext k (by omega))
    rw [mummerlaw08_FaultsMarks.l1, if_pos (by rw [SL_len]; omega), if_pos (by omega), SL_rd l rs i (by omega), hp, w64 (n := (i : Int) + 1) (by omega) (by omega), e1]
    split
    · split
      · rw [if_neg (by omega)]
        exact tl
      · exact tl
    · exact tl
  | succ d ih =>
    intro i hi k hk
    obtain ⟨k, rfl⟩ : ∃ K, k = K + 1 := ⟨k - 1, by omega⟩
    obtain ⟨s, s1, s4, sl, g, e⟩ := hr.stepAt i (by omega)
    have ih' := ih (i + 1) (by omega) k (by omega)
    rw [e, g.stepC C s1 s4, hCC, show ((i + 1 : Nat) : Int) = (i : Int) + 1 by omega] at ih'
    have hle := cwN_le l C (PP l rs i)
    rw [mummerlaw08_FaultsMarks.l1, if_pos (by rw [SL_len]; omega), if_pos (by omega), SL_rd l rs i (by omega), w64 (n := (i : Int) + 1) (by omega) (by omega), w64 (n := (cwN l C (PP l rs i) : Int) + 1) (by omega) (by omega)]
    by_cases c1 : ((PP l rs i : Nat) : Int) ≥ (F : Int)
    · rw [if_pos c1]
      by_cases c2 : ((PP l rs i : Nat) : Int) < T
      · rw [if_pos c2, if_pos (by omega)]
        have cr := crossed_f l (by omega) F te (PP l rs i) (by omega) (by omega) h3 h4 (fun i a b => hn i (by omega) b) h2 (min te (PP l rs i + 1) - F) F (Nat.le_refl _) (by omega) k (by omega)
        unfold mummerlaw08_crossed.f
        rw [w64 (n := ((PP l rs i : Nat) : Int) + 1) (by omega) (by omega), cr, Option.bind_some]
        by_cases c3 : te ≤ PP l rs i
        · rw [if_pos (decide_eq_true c3)]
          rw [if_neg (by rw [decide_eq_false (by omega)]; decide)] at ih'
          exact ih'
        · rw [if_neg (by rw [decide_eq_false c3]; decide)]
          rw [if_pos (decide_eq_true (by omega))] at ih'
          exact ih'
      · rw [if_neg c2]
        rw [if_neg (by rw [decide_eq_false (by omega)]; decide)] at ih'
        exact ih'
    · rw [if_neg c1]
      rw [if_neg (by rw [decide_eq_false (by omega)]; decide)] at ih'
      exact ih'
theorem marks_l0 (hI : Sc.InB l = true) (hl : l.length ≤ 300) (hr : GR l 0 rs) (hc : (chkV l.length l1).2 = 0) (c : List Int) (hcm : ∀ x ∈ c, 0 ≤ x ∧ x < (l1.length : Int)) (hcl : c.length ≤ 100) (xs : List ByteArray) (hxl : xs.length = 3 * c.length)
    (hx : ∀ (j : Nat) (i : Int), c[j]? = some i → ∃ B C, xs[3 * j + 1]? = some B ∧ xs[3 * j + 2]? = some C ∧ LP l (rd_T41 l1 i) B C) :
    ∀ (d j : Nat), j + d = c.length → ∀ k, 250000 + d * 1000 ≤ k → mummerlaw08_FaultsMarks.l0 k l l1 c xs (SL l rs) (j : Int) = some true := by
  intro d
  induction d with
  | zero =>
    intro j hj k hk
    obtain ⟨k, rfl⟩ : ∃ K, k = K + 1 := ⟨k - 1, by omega⟩
    rw [mummerlaw08_FaultsMarks.l0, if_neg (by omega)]; rfl
  | succ d ih =>
    intro j hj k hk
    obtain ⟨k, rfl⟩ : ∃ K, k = K + 1 := ⟨k - 1, by omega⟩
    have hlt : j < c.length := by omega
    have hrl := hr.len
    obtain ⟨B, C, x1, x2, F, te, x3, x4, x5, x6, x7, x8, x9⟩ := hx j c[j] (List.getElem?_eq_getElem hlt)
    have hm := hcm c[j] (List.getElem_mem hlt)
    have hrd : rd c (j : Int) = c[j] := by
      show c.getD j 0 = _
      rw [List.getD_eq_getElem?_getD, List.getElem?_eq_getElem hlt]; rfl
    subst x8
    subst x9
    have g := marks_l1 (l1 := l1) hI hl hr c xs hxl hcl F te (rd_T41 l1 c[j]).f2.f1 x4 x5 x6 x7 j hlt x1 x2 _ (fun _ => rfl) (250000 + d * 1000) (by omega) (fun k hk => ih (j + 1) (by omega) k hk) rs.length 0 (by omega) k (by omega)
    rw [hr.first] at g
    rw [mummerlaw08_FaultsMarks.l0, if_pos (by omega), if_pos (by omega), hrd, if_pos hm.1, if_pos hm.2, x3, place_v hI (by omega) hr F (by omega) k (by omega), Option.bind_some]
    exact g
end
theorem catP_size {l : List Int} (hI : Sc.InB l = true) (hl : l.length ≤ 600) {rs : List (Nat × Nat)} (hr : GR l 0 rs) {l1 : List S41} (hc : (chkV l.length l1).2 = 0) : ∀ (r : List Int) (acc : ByteArray), (∀ x ∈ r, 0 ≤ x ∧ x < (l1.length : Int)) → (catP l l1 r acc).size ≤ acc.size + 3000 * r.length
  | [], acc, _ => by rw [catP]; simp
  | i :: r, acc, h => by
    have hi := h i List.mem_cons_self
    obtain ⟨n, rfl⟩ : ∃ n : Nat, i = (n : Int) := ⟨i.toNat, by omega⟩
    obtain ⟨_, _, p3⟩ := pv_f hI (by omega) hr (rd_T41 l1 (n : Int)) (n : Int) ((chk_ok _ _ hc).2 n (by omega))
    have ih := catP_size hI hl hr hc r (acc ++ pv l (rd_T41 l1 (n : Int))) (fun x hx => h x (List.mem_cons_of_mem _ hx))
    rw [ByteArray.size_append] at ih
    rw [catP, List.length_cons]
    omega
theorem nilL : (⟨#[]⟩ : ByteArray).toList = ([] : List UInt8) := by decide +kernel
theorem law_marks (l0 : List Int) (l1 : List S41) (a2 : Int) (hI : Sc.InB l0 = true) : ∃ k, mummerlaw08_FaultsMarks.f k l0 l1 a2 = some true := by
  refine ⟨900001, ?_⟩
  have yes : mummerlaw08_FaultsMarks.j0 (900000 + 1) l0 l1 a2 true = some true := by rw [mummerlaw08_FaultsMarks.j0, if_pos rfl]; rfl
  unfold mummerlaw08_FaultsMarks.f
  by_cases c : (l0.length : Int) > 300
  · rw [if_pos c]; exact yes
  · rw [if_neg c]
    obtain ⟨b, e, hb⟩ := far_f l1 900001 (by omega)
    rw [e, Option.bind_some]
    cases b with
    | true => exact yes
    | false =>
      have hn := hb rfl
      rw [mummerlaw08_FaultsMarks.j0, if_neg (by decide)]
      rcases check_both l0 hI with ⟨rs, hl, hr⟩ | ⟨q, e, e0, e1, e2⟩
      · rw [picture_f hI (by omega) hr _ _ _ (by omega), Option.bind_some]
        unfold picV
        by_cases hc : (chkV l0.length l1).2 = 0
        · rw [if_pos hc]
          by_cases d : a2 < 0 ∨ (l1.length : Int) ≤ a2
          · rw [if_pos d]
            dsimp only
            rw [if_neg (by decide), if_pos nilL]; rfl
          · rw [if_neg d]
            dsimp only
            have hd := chk_dn hc
            have hcl := chainG_lenL l1 l1.length a2
            have hln := (chk_ok _ _ hc).1
            have hcm := chainG_mem hd l1.length a2 (by omega)
            have hsz := catP_size hI (by omega) hr hc (chainG l1 l1.length a2) ⟨#[]⟩ hcm
            have z0 : (⟨#[]⟩ : ByteArray).size = 0 := rfl
            rw [z0] at hsz
            obtain ⟨xs, x1, x2, x3⟩ := lines_cat hI (by omega) hr hc (catP l0 l1 (chainG l1 l1.length a2) ⟨#[]⟩) (by omega) (chainG l1 l1.length a2) ⟨#[]⟩ [] rfl hcm (by simp; omega) 900000 (by omega)
            rw [z0, List.nil_append] at x1
            rw [if_pos rfl, chain_f l1 a2 _ (by omega) (chk_mono (by omega) hc) (by omega) (by omega), Option.bind_some]
            unfold mummerlaw08_lines.f
            rw [show ((0 : Nat) : Int) = 0 from rfl] at x1
            rw [x1, Option.bind_some]
            dsimp only
            rw [if_pos rfl, w64 (by omega) (by omega), if_pos (by omega), hr.starts hI (by omega) _ (by omega), Option.bind_some]
            exact marks_l0 hI (by omega) hr hc _ hcm (by omega) xs x2 x3 (chainG l1 l1.length a2).length 0 (by omega) 900000 (by omega)
        · rw [if_neg hc]
          dsimp only
          rw [if_neg hc, if_pos nilL]; rfl
      · have p1 : faults_Picture.f 900000 l0 l1 a2 = some (⟨#[]⟩, e) := by
          unfold faults_Picture.f
          show (Sc.checkL _).bind _ = _
          rw [e1, Option.bind_some, if_neg e0]
        rw [p1, Option.bind_some]
        dsimp only
        rw [if_neg e0, if_pos nilL]; rfl
end Go.Proofs.YtdjkdlbokepoaaaGreatDoor.P
