import Derived.Test.YtkalbdeopogbpaaGreatDoorKX38
import Derived.Test.YtkalbdeopogbpaaGreatDoorKX32
import Derived.Test.YtkalbdeopogbpaaGreatDoorKX35
import Derived.Test.YtkalbdeopogbpaaGreatDoorKX33
import Derived.Test.YtkalbdeopogbpaaGreatDoorKX34
import Derived.Test.YtkalbdeopogbpaaGreatDoorKX49
import Derived.Test.YtkalbdeopogbpaaGreatDoorKX39
import Derived.Test.YtkalbdeopogbpaaGreatDoorKX40
namespace Go.Proofs.YtkalbdeopogbpaaGreatDoor.P.Wq
open Go.RowKit Go.Proofs.YtkalbdeopogbpaaGreatDoorW.PrintWords Go.Proofs.YtkalbdeopogbpaaGreatDoorW.PrintLast
set_option linter.unusedVariables false
set_option linter.unusedSimpArgs false
set_option maxRecDepth 20000
theorem rNext_l1 (a : ByteArray) (i : Int) (hs : a.size ≤ 1000000) (hi : i < (a.size : Int)) (hi1 : -1 ≤ i) : ∀ (g j k z : Nat), j + g = a.size → g + 1 ≤ k → (j : Int) = i + 1 + z → mummerref01_next.l1 k a i (mkB (List.replicate z 48)) (j : Int) = some (nxB a i) := by
  intro g
  induction g with
  | zero =>
    intro j k z hj hk hz
    obtain ⟨k, rfl⟩ : ∃ k', k = k' + 1 := ⟨k - 1, by omega⟩
    have hzs : (mkB (List.replicate z 48)).size = z := by rw [mkB_size, List.length_replicate]
    rw [mummerref01_next.l1, if_neg (by omega)]
    by_cases h0 : i < 0
    · rw [if_pos h0, if_pos (by rw [hzs]; omega)]
      unfold nxB
      rw [if_pos h0, show (⟨#[49]⟩ : ByteArray) = mkB [49] from rfl, mkB_app, show z = a.size by omega]; rfl
    · have hxs : (a.extract 0 i.toNat).size = i.toNat := by rw [ByteArray.size_extract]; omega
      have h1s : (strOfNums [(bt a i + 1) % 256]).size = 1 := by rw [str_one, mkB_size]; rfl
      rw [if_neg h0, if_pos (by omega), if_pos (by omega), if_pos hi]
      simp only [Option.bind_some]
      rw [if_pos (by rw [hxs, h1s]; omega), if_pos (by rw [ByteArray.size_append, hxs, h1s, hzs]; omega), nxB_parts a i (by omega) z (by omega) hi]
  | succ g ih =>
    intro j k z hj hk hz
    obtain ⟨k, rfl⟩ : ∃ k', k = k' + 1 := ⟨k - 1, by omega⟩
    have hzs : (mkB (List.replicate z 48)).size = z := by rw [mkB_size, List.length_replicate]
    rw [mummerref01_next.l1, if_pos (by omega), if_pos (by rw [hzs]; omega), w64 (by omega) (by omega), show (⟨#[48]⟩ : ByteArray) = mkB [48] from rfl, mkB_app, ← List.replicate_succ', show (j : Int) + 1 = ((j + 1 : Nat) : Int) by omega]
    exact ih (j + 1) k (z + 1) (by omega) (by omega) (by omega)
theorem rNext_l0 (a : ByteArray) (hs : a.size ≤ 1000000) : ∀ (p k : Nat), p ≤ a.size → p + a.size + 4 ≤ k → mummerref01_next.l0 k a ((p : Int) - 1) = some (nxB a (Wd.lix a p)) := by
  intro p
  induction p with
  | zero =>
    intro k hp hk
    obtain ⟨k, rfl⟩ : ∃ k', k = k' + 1 := ⟨k - 1, by omega⟩
    obtain ⟨k, rfl⟩ : ∃ k', k = k' + 1 := ⟨k - 1, by omega⟩
    rw [mummerref01_next.l0, if_neg (by omega), mummerref01_next.j1, w64 (by omega) (by omega)]
    rw [show ((0 : Nat) : Int) - 1 = -1 by omega, show (-1 : Int) + 1 = ((0 : Nat) : Int) by omega]
    exact rNext_l1 a (-1) hs (by omega) (by omega) a.size 0 k 0 (by omega) (by omega) (by omega)
  | succ p ih =>
    intro k hp hk
    obtain ⟨k, rfl⟩ : ∃ k', k = k' + 1 := ⟨k - 1, by omega⟩
    rw [mummerref01_next.l0, if_pos (by omega), if_pos (by omega), if_pos (by omega), show ((p + 1 : Nat) : Int) - 1 = (p : Int) by omega, Wd.lix]
    by_cases h : bt a (p : Int) = 57
    · rw [if_pos h, if_pos h, w64 (by omega) (by omega)]
      exact ih k (by omega) (by omega)
    · rw [if_neg h, if_neg h]
      obtain ⟨k, rfl⟩ : ∃ k', k = k' + 1 := ⟨k - 1, by omega⟩
      rw [mummerref01_next.j1, w64 (by omega) (by omega), show (p : Int) + 1 = ((p + 1 : Nat) : Int) by omega]
      exact rNext_l1 a p hs (by omega) (by omega) (a.size - (p + 1)) (p + 1) k 0 (by omega) (by omega) (by omega)
theorem rNext_f (n : Nat) (h : Lib.nDigits n ≤ 1000000) (k : Nat) (hk : 2 * Lib.nDigits n + 4 ≤ k) : mummerref01_next.f k (mkB (Lib.decDigits n)) = some (mkB (Lib.decDigits (n + 1))) := by
  have hsz : (mkB (Lib.decDigits n)).size = Lib.nDigits n := by rw [mkB_size, dd_len]
  unfold mummerref01_next.f
  rw [w64 (by omega) (by omega), rNext_l0 _ (by omega) _ k (Nat.le_refl _) (by omega), nxB_dd]
def lastB (o : Option Nat) : ByteArray := match o with
  | none => ⟨#[]⟩
  | some q => mkB (Lib.decDigits q)
def lastO : Option Nat → List (Nat × Nat) → Option Nat
  | o, [] => o
  | _, p :: ps => lastO (some p.2) ps
theorem lastO_N : ∀ (ps : List (Nat × Nat)) (o : Option Nat), ps ≠ [] → lastO o ps = some (lastN ps) := by
  intro ps
  induction ps with
  | nil => intro o h; exact absurd rfl h
  | cons p ps ih =>
    intro o _
    rw [lastO]
    cases ps with
    | nil => rfl
    | cons p' ps =>
      rw [ih _ (by simp)]
      unfold lastN; rw [List.getLast?_cons_cons]
def enc (p : Nat × Nat) : S70 := ⟨mkB (Lib.decDigits p.1), mkB (Lib.decDigits p.2)⟩
theorem rdOf_mid (pre : List (List UInt8)) (x : List UInt8) (r : List (List UInt8)) : rdOf ByteArray.empty ((pre ++ x :: r).map mkB) (pre.length : Int) = mkB x := by
  unfold rdOf
  simp [List.getD_eq_getElem?_getD]
theorem nd_small (l : List UInt8) (h : (45 : UInt8) ∉ l) (hd : decS (mkB l) = true) : ∃ n, l = Lib.decDigits n ∧ nv l = n ∧ Lib.nDigits n = l.length := by
  obtain ⟨n, hn⟩ := (decS_iff l h).1 hd
  exact ⟨n, hn, by rw [hn, nv_dd], by rw [hn, dd_len]⟩
theorem wl0 (rs : List (List UInt8)) (hrs : ∀ r ∈ rs, r.length ≤ 30000) (hlen : rs.length ≤ 100000) : ∀ (rest pre : List (List UInt8)) (o : Option Nat) (acc : List (Nat × Nat)) (k : Nat), pre ++ rest = rs → acc.length = pre.length → (pre = [] → o = none) → (pre ≠ [] → ∃ q, o = some q ∧ Lib.nDigits q ≤ 30000) → 2 * rest.length ≤ k →
    words_ParseList.l0 k (lastB o) (acc.map enc) (rs.map mkB) (rs.length : Int) (pre.length : Int) = match chk o rest with
      | none => some ([], 6)
      | some ps => words_ParseList.l0 (k - 2 * rest.length) (lastB (lastO o ps)) ((acc ++ ps).map enc) (rs.map mkB) (rs.length : Int) (rs.length : Int) := by
  intro rest
  induction rest with
  | nil =>
    intro pre o acc k hp ha _ _ _
    rw [chk]
    simp only
    rw [lastO, List.append_nil, show pre.length = rs.length by rw [← hp, List.append_nil]]; rfl
  | cons r rest ih =>
    intro pre o acc k hp ha ho1 ho2 hk
    rw [List.length_cons] at hk
    obtain ⟨k, rfl⟩ : ∃ k', k = k' + 1 := ⟨k - 1, by omega⟩
    obtain ⟨k, rfl⟩ : ∃ k', k = k' + 1 := ⟨k - 1, by omega⟩
    have hl : rs.length = pre.length + (rest.length + 1) := by rw [← hp, List.length_append, List.length_cons]
    have hr := hrs r (by rw [← hp]; simp)
    rw [words_ParseList.l0, if_pos (by omega), if_pos (by omega), if_pos (by rw [List.length_map]; omega)]
    rw [show rdOf ByteArray.empty (rs.map mkB) (pre.length : Int) = mkB r by rw [← hp]; exact rdOf_mid pre r rest]
    obtain ⟨x, y, b, hc, h45, hb0, hb1⟩ := wCut45 (mkB r) (by rw [mkB_size]; omega)
    rw [mkB_data] at hb0 hb1
    have hrun := runOf_cut x y b r h45 hb0 hb1
    rw [hc]
    simp only [Option.bind_some]
    obtain ⟨e, he⟩ : ∃ e, (if b then y else x) = e := ⟨_, rfl⟩
    rw [he] at hrun
    have hgo : (if b = true then words_ParseList.j1 (k + 1) (lastB o) (acc.map enc) (pre.length : Int) (mkB x) (mkB y) b (rs.map mkB) (rs.length : Int) (pre.length : Int) else words_ParseList.j1 (k + 1) (lastB o) (acc.map enc) (pre.length : Int) (mkB x) (mkB x) b (rs.map mkB) (rs.length : Int) (pre.length : Int)) = words_ParseList.j1 (k + 1) (lastB o) (acc.map enc) (pre.length : Int) (mkB x) (mkB e) b (rs.map mkB) (rs.length : Int) (pre.length : Int) := by
      rw [← he]
      cases b <;> simp
    rw [hgo]
    have hxl : x.length ≤ 30000 := by
      cases b with
      | false => rw [← (hb0 rfl).1]; exact hr
      | true => have := congrArg List.length (hb1 rfl); rw [List.length_append] at this; omega
    have hel : e.length ≤ 30000 := by
      rw [← he]
      cases b with
      | false => exact hxl
      | true => have := congrArg List.length (hb1 rfl); rw [List.length_append, List.length_cons] at this; simp only [if_true]; omega
    rw [words_ParseList.j1, wDec_f _ (by rw [mkB_size]; omega)]
    simp only [Option.bind_some]
    rw [chk, hrun]
    by_cases h1 : decS (mkB x) = true
    case neg => rw [if_neg h1, if_neg (fun h => h1 h.1)]
    rw [if_pos h1, wDec_f _ (by rw [mkB_size]; omega)]
    simp only [Option.bind_some]
    by_cases h2 : decS (mkB e) = true
    case neg => rw [if_neg h2, if_neg (fun h => h2 h.2.1)]
    have hene := decS_ne h2
    rw [if_pos h2, if_pos (by rw [mkB_size]; have := List.length_pos_iff.2 hene; omega)]
    by_cases h3 : bt (mkB e) 0 = 45
    case pos => rw [if_pos h3, if_neg (fun h => h.2.2.1 h3)]
    rw [if_neg h3]
    obtain ⟨m, hm1, hm2, hm3⟩ := nd_small x h45 h1
    obtain ⟨n, hn1, hn2, hn3⟩ := nd_small e (decS_no45 e h2 h3) h2
    -- what stands behind both tests
    have tail : (b = true → nv x < nv e) → (if (pre.length : Int) > 0 then ((words_follows.f (lastB o) (mkB x)).bind fun t160 => (if t160 = true then (if (acc.map enc).length < 4398046511104 then (words_ParseList.l0 k (mkB e) (acc.map enc ++ [(⟨mkB x, mkB e⟩ : S70)]) (rs.map mkB) (rs.length : Int) (wrap64 ((pre.length : Int) + 1))) else (none)) else (some (([] : List Int), 6)))) else (if (acc.map enc).length < 4398046511104 then (words_ParseList.l0 k (mkB e) (acc.map enc ++ [(⟨mkB x, mkB e⟩ : S70)]) (rs.map mkB) (rs.length : Int) (wrap64 ((pre.length : Int) + 1))) else (none))) = match (match some (nv x, nv e) with
          | none => none
          | some p => if okBy o p.1 = true then (chk (some p.2) rest).map (fun l => p :: l) else none) with
        | none => some ([], 6)
        | some ps => words_ParseList.l0 (k + 1 + 1 - 2 * (r :: rest).length) (lastB (lastO o ps)) ((acc ++ ps).map enc) (rs.map mkB) (rs.length : Int) (rs.length : Int) := by
      intro _
      simp only
      have step : words_ParseList.l0 k (mkB e) (acc.map enc ++ [(⟨mkB x, mkB e⟩ : S70)]) (rs.map mkB) (rs.length : Int) (wrap64 ((pre.length : Int) + 1)) = match (chk (some (nv e)) rest).map (fun l => (nv x, nv e) :: l) with
        | none => some ([], 6)
        | some ps => words_ParseList.l0 (k + 1 + 1 - 2 * (r :: rest).length) (lastB (lastO o ps)) ((acc ++ ps).map enc) (rs.map mkB) (rs.length : Int) (rs.length : Int) := by
        have hi := ih (pre ++ [r]) (some (nv e)) (acc ++ [(nv x, nv e)]) k (by rw [← hp]; simp) (by simp [ha]) (by simp) (fun _ => ⟨_, rfl, by rw [hn2, hn3]; exact hel⟩) (by omega)
        have e1 : (acc ++ [(nv x, nv e)]).map enc = acc.map enc ++ [(⟨mkB x, mkB e⟩ : S70)] := by
          rw [List.map_append, hm2, hn2, hm1, hn1]; rfl
        have e2 : lastB (some (nv e)) = mkB e := by rw [hn2, hn1]; rfl
        rw [e1, e2, show (((pre ++ [r]).length : Nat) : Int) = wrap64 ((pre.length : Int) + 1) by rw [w64 (by omega) (by omega), List.length_append]; simp] at hi
        rw [hi]
        cases hq : chk (some (nv e)) rest with
        | none => rfl
        | some ps =>
          simp only [Option.map_some]
          rw [lastO, List.append_assoc, show k + 1 + 1 - 2 * (r :: rest).length = k - 2 * rest.length by rw [List.length_cons]; omega]; rfl
      by_cases hpe : pre = []
      · rw [if_neg (by rw [hpe]; simp), if_pos (by rw [List.length_map]; omega), step, ho1 hpe]
        rfl
      · obtain ⟨q, hq, hqd⟩ := ho2 hpe
        have := List.length_pos_iff.2 hpe
        rw [if_pos (by omega)]
        rw [hq]
        have hf := follows_f q m (by omega) (by omega)
        rw [← hm1] at hf
        show ((words_follows.f (mkB (Lib.decDigits q)) (mkB x)).bind _) = _
        rw [hf]
        simp only [Option.bind_some]
        have hok : okBy (some q) (nv x) = decide (q + 1 < m) := by rw [hm2]; rfl
        rw [hok]
        by_cases hlt : q + 1 < m
        · rw [decide_eq_true hlt, if_pos rfl, if_pos rfl, if_pos (by rw [List.length_map]; omega), step, hq]
        · rw [decide_eq_false hlt, if_neg Bool.false_ne_true, if_neg Bool.false_ne_true]
    cases b with
    | false =>
      have hc : decS (mkB x) = true ∧ decS (mkB e) = true ∧ ¬ bt (mkB e) 0 = 45 ∧ (false = true → nv x < nv y) := ⟨h1, h2, h3, (fun h => by cases h)⟩
      rw [if_neg Bool.false_ne_true, if_pos hc]
      exact tail (fun h => by cases h)
    | true =>
      have hye : y = e := by simpa using he
      obtain ⟨v, hv, v1, v2, v3⟩ := wCmp_f m n (by omega) (by omega)
      rw [← hm1, ← hn1] at hv
      by_cases h5 : nv x < nv e
      · have hc : decS (mkB x) = true ∧ decS (mkB e) = true ∧ ¬ bt (mkB e) 0 = 45 ∧ (true = true → nv x < nv y) := ⟨h1, h2, h3, (fun _ => by rw [hye]; exact h5)⟩
        rw [if_pos rfl, if_pos hc, hv]
        simp only [Option.bind_some]
        have hvn : ¬ v ≥ 0 := fun h => by have := v2.1 h; omega
        rw [if_neg hvn]
        exact tail (fun _ => h5)
      · have hc : ¬ (decS (mkB x) = true ∧ decS (mkB e) = true ∧ ¬ bt (mkB e) 0 = 45 ∧ (true = true → nv x < nv y)) := fun h => h5 (by rw [← hye]; exact h.2.2.2 rfl)
        rw [if_pos rfl, if_neg hc, hv]
        simp only [Option.bind_some]
        rw [if_pos (v2.2 (by omega))]
theorem atoi_dd (n : Nat) (h : n ≤ 1000000000) (hs : Lib.nDigits n ≤ 1000000) : strconv_Atoi_46.f (mkB (Lib.decDigits n)) = some ((n : Int), none) := by
  have hp := parseInt_f (mkB (Lib.decDigits n)) (dd_good n).1
  rw [if_neg (by rw [(dd_good n).2]; decide), vl_dd, if_neg (by omega), Lib.parseIntB_64] at hp
  unfold strconv_Atoi_46.f
  rw [if_pos (by rw [mkB_size, dd_len]; exact hs)]
  unfold Wd.atoiV
  rw [hp]; rfl
theorem nd_nine (n : Nat) (h : n ≤ 1000000000) : Lib.nDigits n ≤ 10 := by
  have e : Lib.nDigits 1000000000 = 10 := by
    simp [Lib.nDigits_big, Lib.nDigits_small]
  have := nd_mono 1000000000 n h
  omega
theorem wl2 (E : List S70) (L i : Int) (y : Nat) (hy : y ≤ 1000000000) : ∀ (d x : Nat) (acc : List Int) (k : Nat), x + d = y + 1 → acc.length + d ≤ 1000000 → d + 1 ≤ k → words_ParseList.l2 k acc (y : Int) (x : Int) E L i = words_ParseList.l1 (k - d - 1) (acc ++ rangeL x d) E L (wrap64 (i + 1)) := by
  intro d
  induction d with
  | zero =>
    intro x acc k hx _ hk
    obtain ⟨k, rfl⟩ : ∃ k', k = k' + 1 := ⟨k - 1, by omega⟩
    rw [words_ParseList.l2, if_neg (by omega), rangeL_zero, List.append_nil]; rfl
  | succ d ih =>
    intro x acc k hx ha hk
    obtain ⟨k, rfl⟩ : ∃ k', k = k' + 1 := ⟨k - 1, by omega⟩
    rw [words_ParseList.l2, if_pos (by omega), if_pos (by omega), w64 (by omega) (by omega), show (x : Int) + 1 = ((x + 1 : Nat) : Int) by omega, ih (x + 1) _ k (by omega) (by rw [List.length_append]; simp; omega) (by omega), rangeL_succ, List.append_assoc, show k + 1 - (d + 1) - 1 = k - d - 1 by omega]; rfl
theorem rd_enc (pre : List (Nat × Nat)) (p : Nat × Nat) (r : List (Nat × Nat)) : rd_T70 ((pre ++ p :: r).map enc) (pre.length : Int) = enc p := by
  unfold rd_T70
  simp [List.getD_eq_getElem?_getD]
theorem wl1 (ps : List (Nat × Nat)) (hps : ∀ p ∈ ps, p.1 ≤ p.2 ∧ p.2 ≤ 1000000000) (hlen : ps.length ≤ 100000) : ∀ (rest pre : List (Nat × Nat)) (acc : List Int) (k : Nat), pre ++ rest = ps → acc.length ≤ 500 → 2 * rest.length + (500 - acc.length) + 2 ≤ k →
    words_ParseList.l1 k acc (ps.map enc) (ps.length : Int) (pre.length : Int) = some (expand rest acc) := by
  intro rest
  induction rest with
  | nil =>
    intro pre acc k hp ha hk
    obtain ⟨k, rfl⟩ : ∃ k', k = k' + 1 := ⟨k - 1, by omega⟩
    rw [List.append_nil] at hp
    rw [words_ParseList.l1, if_neg (by rw [hp]; omega), expand]
  | cons p rest ih =>
    intro pre acc k hp ha hk
    rw [List.length_cons] at hk
    obtain ⟨k, rfl⟩ : ∃ k', k = k' + 1 := ⟨k - 1, by omega⟩
    have hl : ps.length = pre.length + (rest.length + 1) := by rw [← hp, List.length_append, List.length_cons]
    obtain ⟨h1, h2⟩ := hps p (by rw [← hp]; simp)
    have n1 := nd_nine p.1 (by omega)
    have n2 := nd_nine p.2 h2
    rw [words_ParseList.l1, if_pos (by omega), if_pos (by omega), if_pos (by rw [List.length_map]; omega)]
    rw [show rd_T70 (ps.map enc) (pre.length : Int) = enc p by rw [← hp]; exact rd_enc pre p rest]
    show ((strconv_Atoi_46.f (mkB (Lib.decDigits p.1))).bind fun bt171 => ((strconv_Atoi_46.f (mkB (Lib.decDigits p.2))).bind fun bt173 => _)) = _
    rw [atoi_dd p.1 (by omega) (by omega), atoi_dd p.2 h2 (by omega)]
    simp only [Option.bind_some]
    rw [w64 (n := (p.2 : Int) - p.1) (by omega) (by omega), w64 (n := 500 - (acc.length : Int)) (by omega) (by omega), expand]
    by_cases h5 : 500 < acc.length + (p.2 - p.1 + 1)
    · rw [if_pos (by omega), if_pos h5]
    · rw [if_neg (by omega), if_neg h5, wl2 _ _ _ p.2 h2 (p.2 - p.1 + 1) p.1 acc k (by omega) (by omega) (by omega), w64 (by omega) (by omega), show (pre.length : Int) + 1 = (((pre ++ [p]).length : Nat) : Int) by simp]
      exact ih (pre ++ [p]) _ _ (by rw [← hp]; simp) (by rw [List.length_append, rangeL_len]; omega) (by rw [List.length_append, rangeL_len]; omega)
theorem tl_eq (a : ByteArray) : a.toList = a.data.toList := Lib.toList_data a
theorem chk_len : ∀ (rs : List (List UInt8)) (o : Option Nat) (ps : List (Nat × Nat)), chk o rs = some ps → ps.length = rs.length := by
  intro rs o ps h
  have := (chk_iff rs o ps).1 h
  rw [this.1, List.length_map]
theorem nd_of_good (rs : List (List UInt8)) (hrs : ∀ r ∈ rs, r.length ≤ 30000) (o : Option Nat) (ps : List (Nat × Nat)) (h : chk o rs = some ps) : ∀ p ∈ ps, Lib.nDigits p.2 ≤ 30000 := by
  intro p hp
  have h1 := ((chk_iff rs o ps).1 h).1
  have h2 := hrs (segL p) (by rw [h1]; exact List.mem_map.2 ⟨p, hp, rfl⟩)
  unfold segL at h2
  split at h2
  · rename_i e; rw [dd_len, e] at h2; exact h2
  · rw [List.length_append, List.length_cons, dd_len, dd_len] at h2; omega
theorem wParse_f (a : ByteArray) (hs : a.size ≤ 30000) (k : Nat) (hk : 200000 ≤ k) : words_ParseList.f k a = some (parseS a) := by
  unfold words_ParseList.f parseS
  rw [tl_eq]
  by_cases h0 : a.data.toList = [45]
  · rw [if_pos h0, if_pos h0]
  · rw [if_neg h0, if_neg h0, wSplit44 a (by omega)]
    simp only [Option.bind_some]
    obtain ⟨rs, hrs⟩ : ∃ rs, spA 44 [] a.data.toList = rs := ⟨_, rfl⟩
    have hl := (spA_length 44 a.data.toList []).1
    have hne := spA_nil 44 a.data.toList []
    have hsm := spA_small 44 a.data.toList []
    rw [← Lib.size_eq] at hl hsm
    rw [hrs] at hl hne hsm ⊢
    have hsm' : ∀ r ∈ rs, r.length ≤ 30000 := fun r hr => by have := hsm r hr; simp at this; omega
    have h1 := wl0 rs hsm' (by omega) rs [] none [] k rfl rfl (fun _ => rfl) (fun h => absurd rfl h) (by omega)
    rw [List.length_map]
    rw [show words_ParseList.l0 k (⟨#[]⟩ : ByteArray) ([] : List S70) (rs.map mkB) (rs.length : Int) 0 = words_ParseList.l0 k (lastB none) (([] : List (Nat × Nat)).map enc) (rs.map mkB) (rs.length : Int) ((([] : List (List UInt8)).length : Nat) : Int) from rfl, h1]
    cases hc : chk none rs with
    | none => rfl
    | some ps =>
      simp only
      have hg := ((chk_iff rs none ps).1 hc).2
      have hpl := chk_len rs none ps hc
      have hpne : ps ≠ [] := by
        intro e
        rw [e] at hpl
        exact hne (List.length_eq_zero_iff.1 hpl.symm)
      have hll := good_last ps none hg
      have hnd := nd_of_good rs hsm' none ps hc
      have hlast : Lib.nDigits (lastN ps) ≤ 30000 := by
        rcases lastN_mem ps with e | ⟨p, hp, e⟩
        · rw [e]; have := nd_nine 0 (by omega); omega
        · rw [e]; exact hnd p hp
      rw [List.nil_append, lastO_N ps none hpne]
      obtain ⟨k', hk'⟩ : ∃ k', k - 2 * rs.length = k' + 1 := ⟨k - 2 * rs.length - 1, by omega⟩
      rw [hk', words_ParseList.l0, if_neg (by omega)]
      unfold strconv_Itoa_36.f
      rw [if_pos (by decide)]
      simp only [Option.bind_some]
      rw [show (⟨(Lib.itoa 1000000000).toArray⟩ : ByteArray) = mkB (Lib.decDigits 1000000000) by rw [itoa_pos 1000000000 (by decide)]; rfl]
      have n9 := nd_nine 1000000000 (by omega)
      obtain ⟨v, hv, v1, v2, v3⟩ := wCmp_f (lastN ps) 1000000000 (by omega) (by omega)
      show ((words_compare.f (mkB (Lib.decDigits (lastN ps))) (mkB (Lib.decDigits 1000000000))).bind _) = _
      rw [hv]
      simp only [Option.bind_some]
      by_cases h9 : 1000000000 < lastN ps
      · rw [if_pos (v3.2 h9), if_pos h9]
      · rw [if_neg (fun h => h9 (v3.1 h)), if_neg h9]
        have := wl1 ps (fun p hp => ⟨(hll p hp).1, by have := (hll p hp).2; omega⟩) (by omega) ps [] [] k' rfl (by simp) (by simp; omega)
        rw [List.length_map]
        exact this
def fsts (acc : List (Nat × Nat)) : List ByteArray := acc.map (fun p => mkB (Lib.decDigits p.1))
def snds (acc : List (Nat × Nat)) : List ByteArray := acc.map (fun p => mkB (Lib.decDigits p.2))
theorem rl0 (rs : List (List UInt8)) (hrs : ∀ r ∈ rs, r.length ≤ 30000) (hlen : rs.length ≤ 100000) : ∀ (rest pre : List (List UInt8)) (o : Option Nat) (acc : List (Nat × Nat)) (k : Nat), pre ++ rest = rs → acc.length = pre.length → (pre = [] → o = none) → (pre ≠ [] → ∃ q, o = some q ∧ Lib.nDigits q ≤ 30000) → 2 * rest.length + 100000 ≤ k →
    mummerref01_ParseList.l0 k (lastB o) (fsts acc) (snds acc) (rs.map mkB) (pre.length : Int) = match chk o rest with
      | none => some ([], 6)
      | some ps => mummerref01_ParseList.l0 (k - 2 * rest.length) (lastB (lastO o ps)) (fsts (acc ++ ps)) (snds (acc ++ ps)) (rs.map mkB) (rs.length : Int) := by
  intro rest
  induction rest with
  | nil =>
    intro pre o acc k hp ha _ _ _
    rw [chk]
    simp only
    rw [lastO, List.append_nil, show pre.length = rs.length by rw [← hp, List.append_nil]]; rfl
  | cons r rest ih =>
    intro pre o acc k hp ha ho1 ho2 hk
    rw [List.length_cons] at hk
    obtain ⟨k, rfl⟩ : ∃ k', k = k' + 1 := ⟨k - 1, by omega⟩
    obtain ⟨k, rfl⟩ : ∃ k', k = k' + 1 := ⟨k - 1, by omega⟩
    have hl : rs.length = pre.length + (rest.length + 1) := by rw [← hp, List.length_append, List.length_cons]
    have hr := hrs r (by rw [← hp]; simp)
    have hfl : (fsts acc).length = acc.length := by unfold fsts; rw [List.length_map]
    have hsl : (snds acc).length = acc.length := by unfold snds; rw [List.length_map]
    rw [mummerref01_ParseList.l0, if_pos (by rw [List.length_map]; omega), if_pos (by omega)]
    rw [show rdOf ByteArray.empty (rs.map mkB) (pre.length : Int) = mkB r by rw [← hp]; exact rdOf_mid pre r rest]
    rw [show (45 : Int) = ((45 : UInt8).toNat : Int) from rfl, rParts_f (mkB r) 45 (by rw [mkB_size]; omega) (k + 1) (by rw [mkB_size]; omega), mkB_data]
    simp only [Option.bind_some]
    have hno := spA_not 45 r [] (by simp)
    have hsm := spA_small 45 r []
    have hone := spA_nil 45 r []
    -- what stands behind the tests
    have tail : ∀ (x e : List UInt8) (xs : List (List UInt8)) (m n : Nat), spA 45 [] r = xs → xs.head? = some x → xs.getLast? = some e → xs.length ≤ 2 → runOf r = some (m, n) → x = Lib.decDigits m → e = Lib.decDigits n → Lib.nDigits m ≤ 30000 → Lib.nDigits n ≤ 30000 →
        mummerref01_ParseList.j1 (k + 1) (lastB o) (fsts acc) (snds acc) (rs.map mkB) (pre.length : Int) (xs.map mkB) false = match (match some (m, n) with
          | none => none
          | some p => if okBy o p.1 = true then (chk (some p.2) rest).map (fun l => p :: l) else none) with
        | none => some ([], 6)
        | some ps => mummerref01_ParseList.l0 (k + 1 + 1 - 2 * (r :: rest).length) (lastB (lastO o ps)) (fsts (acc ++ ps)) (snds (acc ++ ps)) (rs.map mkB) (rs.length : Int) := by
      intro x e xs m n hxs hx he hx2 hrun hxm hen hm hn
      simp only
      have hxl : 1 ≤ xs.length := by
        cases xs with
        | nil => cases hx
        | cons _ _ => simp
      have r0 : rdOf ByteArray.empty (xs.map mkB) 0 = mkB x := by
        cases xs with
        | nil => cases hx
        | cons a l => rw [List.head?_cons] at hx; rw [← Option.some.inj hx]; rfl
      have r1 : rdOf ByteArray.empty (xs.map mkB) (wrap64 (((xs.map mkB).length : Int) - 1)) = mkB e := by
        rw [List.length_map, w64 (by omega) (by omega)]
        unfold rdOf
        rw [show ((xs.length : Int) - 1).toNat = xs.length - 1 by omega, List.getD_eq_getElem?_getD, List.getElem?_map]
        rw [List.getLast?_eq_getElem?] at he
        rw [he]; rfl
      have w1 : wrap64 (((xs.map mkB).length : Int) - 1) = (xs.length : Int) - 1 := by rw [List.length_map, w64 (by omega) (by omega)]
      have step : mummerref01_ParseList.l0 k (mkB e) (fsts acc ++ [mkB x]) (snds acc ++ [mkB e]) (rs.map mkB) (wrap64 ((pre.length : Int) + 1)) = match (chk (some n) rest).map (fun l => (m, n) :: l) with
        | none => some ([], 6)
        | some ps => mummerref01_ParseList.l0 (k + 1 + 1 - 2 * (r :: rest).length) (lastB (lastO o ps)) (fsts (acc ++ ps)) (snds (acc ++ ps)) (rs.map mkB) (rs.length : Int) := by
        have hi := ih (pre ++ [r]) (some n) (acc ++ [(m, n)]) k (by rw [← hp]; simp) (by simp [ha]) (by simp) (fun _ => ⟨_, rfl, hn⟩) (by omega)
        have e1 : fsts (acc ++ [(m, n)]) = fsts acc ++ [mkB x] := by unfold fsts; rw [List.map_append, hxm]; rfl
        have e1' : snds (acc ++ [(m, n)]) = snds acc ++ [mkB e] := by unfold snds; rw [List.map_append, hen]; rfl
        have e2 : lastB (some n) = mkB e := by rw [hen]; rfl
        rw [e1, e1', e2, show (((pre ++ [r]).length : Nat) : Int) = wrap64 ((pre.length : Int) + 1) by rw [w64 (by omega) (by omega), List.length_append]; simp] at hi
        rw [hi]
        cases hq : chk (some n) rest with
        | none => rfl
        | some ps =>
          simp only [Option.map_some]
          rw [lastO, List.append_assoc, show k + 1 + 1 - 2 * (r :: rest).length = k - 2 * rest.length by rw [List.length_cons]; omega]; rfl
      rw [mummerref01_ParseList.j1, if_neg Bool.false_ne_true, r1, r0, w1]
      by_cases hpe : pre = []
      · rw [if_neg (by rw [hpe]; simp), if_pos (by omega), if_pos (by rw [List.length_map]; omega), if_pos (by rw [List.length_map]; omega), if_pos (by omega), if_pos (by omega), step, ho1 hpe]
        rfl
      · obtain ⟨q, hq, hqd⟩ := ho2 hpe
        have := List.length_pos_iff.2 hpe
        rw [if_pos (by omega)]
        rw [hq]
        show ((mummerref01_next.f k (mkB (Lib.decDigits q))).bind _) = _
        rw [rNext_f q (by omega) k (by omega)]
        simp only [Option.bind_some]
        rw [if_pos (by rw [List.length_map]; omega), hxm, rLess_f (q + 1) m, ← hxm]
        simp only [Option.bind_some]
        have hok : okBy (some q) m = decide (q + 1 < m) := rfl
        rw [hok]
        by_cases hlt : q + 1 < m
        · rw [decide_eq_true hlt, if_pos rfl, if_pos rfl, if_pos (by omega), if_pos (by rw [List.length_map]; omega), if_pos (by omega), if_pos (by omega), step, hq]
        · rw [decide_eq_false hlt, if_neg Bool.false_ne_true, if_neg Bool.false_ne_true]
    have bad : mummerref01_ParseList.j1 (k + 1) (lastB o) (fsts acc) (snds acc) (rs.map mkB) (pre.length : Int) ((spA 45 [] r).map mkB) true = some ([], 6) := by
      rw [mummerref01_ParseList.j1, if_pos rfl]
    rw [chk]
    obtain ⟨xs, hxs⟩ : ∃ xs, spA 45 [] r = xs := ⟨_, rfl⟩
    rw [hxs] at hno hsm hone bad ⊢
    have hsm' : ∀ x ∈ xs, x.length ≤ 30000 := fun x hx => by have := hsm x hx; simp at this; omega
    have hrd0 : ∀ (x : List UInt8) (t : List (List UInt8)), rdOf ByteArray.empty ((x :: t).map mkB) 0 = mkB x := fun x t => rfl
    have hrd1 : ∀ (x y : List UInt8) (t : List (List UInt8)), rdOf ByteArray.empty ((x :: y :: t).map mkB) 1 = mkB y := fun x y t => rfl
    match xs, hxs, hno, hsm', hone, bad with
    | [], _, _, _, hone, _ => exact absurd rfl hone
    | [x], hxs, hno, hsm', _, bad =>
      have hx45 := hno x (by simp)
      have hxl := hsm' x (by simp)
      have hrun : runOf r = if decS (mkB x) = true then some (nv x, nv x) else none := by unfold runOf; rw [hxs]
      rw [if_neg (by simp), if_pos (by simp), hrd0, rDec_f _ (by rw [mkB_size]; omega) _ (by rw [mkB_size]; omega)]
      simp only [Option.bind_some]
      rw [hrun]
      by_cases h1 : decS (mkB x) = true
      · rw [if_pos h1] at hrun
        rw [if_pos h1, if_pos h1, if_neg (by simp)]
        obtain ⟨m, hm1, hm2, hm3⟩ := nd_small x hx45 h1
        rw [hm2] at hrun ⊢
        exact tail x x [x] m m hxs rfl rfl (by simp) hrun hm1 hm1 (by omega) (by omega)
      · rw [if_neg h1, if_neg h1]; exact bad
    | [x, y], hxs, hno, hsm', _, bad =>
      have hx45 := hno x (by simp)
      have hy45 := hno y (by simp)
      have hxl := hsm' x (by simp)
      have hyl := hsm' y (by simp)
      have hrun : runOf r = if decS (mkB x) = true ∧ decS (mkB y) = true ∧ nv x < nv y then some (nv x, nv y) else none := by unfold runOf; rw [hxs]
      rw [if_neg (by simp), if_pos (by simp), hrd0, rDec_f _ (by rw [mkB_size]; omega) _ (by rw [mkB_size]; omega)]
      simp only [Option.bind_some]
      rw [hrun]
      by_cases h1 : decS (mkB x) = true
      case neg => rw [if_neg h1, if_neg (fun h => h1 h.1)]; exact bad
      rw [if_pos h1, if_pos (by simp), if_pos (by simp), hrd1, rDec_f _ (by rw [mkB_size]; omega) _ (by rw [mkB_size]; omega)]
      simp only [Option.bind_some]
      by_cases h2 : decS (mkB y) = true
      case neg => rw [if_neg h2, if_neg (fun h => h2 h.2.1)]; exact bad
      rw [if_pos h2]
      obtain ⟨m, hm1, hm2, hm3⟩ := nd_small x hx45 h1
      obtain ⟨n, hn1, hn2, hn3⟩ := nd_small y hy45 h2
      have hless := rLess_f m n
      rw [← hm1, ← hn1] at hless
      rw [hless]
      simp only [Option.bind_some]
      rw [hm2, hn2] at hrun ⊢
      by_cases h3 : m < n
      · rw [if_pos ⟨h1, h2, h3⟩] at hrun
        rw [if_pos ⟨h1, h2, h3⟩, decide_eq_true h3]
        exact tail x y [x, y] m n hxs rfl rfl (by simp) hrun hm1 hn1 (by omega) (by omega)
      · rw [if_neg (fun h => h3 h.2.2), decide_eq_false h3]
        exact bad
    | x :: y :: z :: t, hxs, _, _, _, bad =>
      have hrun : runOf r = none := by unfold runOf; rw [hxs]
      rw [if_pos (by simp; omega), hrun]
      exact bad
theorem rl2 (F S R : List ByteArray) (i : Int) (y : Nat) (hy : y ≤ 1000000000) : ∀ (d x : Nat) (acc : List Int) (k : Nat), x + d = y + 1 → acc.length ≤ 500 → d + 1 ≤ k ∨ 500 < acc.length + d ∧ 502 - acc.length ≤ k → mummerref01_ParseList.l2 k F S R acc i (y : Int) (x : Int) = if 500 < acc.length + d then some ([], 3) else mummerref01_ParseList.l1 (k - d - 1) F S R (acc ++ rangeL x d) (wrap64 (i + 1)) := by
  intro d
  induction d with
  | zero =>
    intro x acc k hx ha hk
    obtain ⟨k, rfl⟩ : ∃ k', k = k' + 1 := ⟨k - 1, by omega⟩
    rw [mummerref01_ParseList.l2, if_neg (by omega), rangeL_zero, List.append_nil, if_neg (by omega)]; rfl
  | succ d ih =>
    intro x acc k hx ha hk
    obtain ⟨k, rfl⟩ : ∃ k', k = k' + 1 := ⟨k - 1, by omega⟩
    rw [mummerref01_ParseList.l2, if_pos (by omega)]
    by_cases h5 : acc.length = 500
    · rw [if_pos (by omega), if_pos (by omega)]
    · rw [if_neg (by omega), if_pos (by omega), w64 (by omega) (by omega), show (x : Int) + 1 = ((x + 1 : Nat) : Int) by omega, ih (x + 1) _ k (by omega) (by rw [List.length_append]; simp; omega) (by rw [List.length_append]; simp; omega), rangeL_succ, List.append_assoc, List.length_append, show k + 1 - (d + 1) - 1 = k - d - 1 by omega]
      by_cases h6 : 500 < acc.length + (d + 1)
      · rw [if_pos h6, if_pos (by simp; omega)]
      · rw [if_neg h6, if_neg (by simp; omega)]; rfl
theorem int_dd (n : Nat) (h : n ≤ 1000000000) : intS (mkB (Lib.decDigits n)) 0 1000000000 = ((n : Int), 0) := by
  obtain ⟨e1, e2⟩ := dd_good n
  unfold intS
  rw [if_neg (by rw [e1]; decide), if_neg (by rw [e2]; decide), vl_dd, if_neg (by omega), if_neg (by omega)]
theorem rd_fst (pre : List (Nat × Nat)) (p : Nat × Nat) (r : List (Nat × Nat)) : rdOf ByteArray.empty (fsts (pre ++ p :: r)) (pre.length : Int) = mkB (Lib.decDigits p.1) := by
  unfold rdOf fsts
  simp [List.getD_eq_getElem?_getD]
theorem rd_snd (pre : List (Nat × Nat)) (p : Nat × Nat) (r : List (Nat × Nat)) : rdOf ByteArray.empty (snds (pre ++ p :: r)) (pre.length : Int) = mkB (Lib.decDigits p.2) := by
  unfold rdOf snds
  simp [List.getD_eq_getElem?_getD]
theorem rl1 (ps : List (Nat × Nat)) (R : List ByteArray) (hR : R.length = ps.length) (hps : ∀ p ∈ ps, p.1 ≤ p.2 ∧ p.2 ≤ 1000000000) (hlen : ps.length ≤ 100000) : ∀ (rest pre : List (Nat × Nat)) (acc : List Int) (k : Nat), pre ++ rest = ps → acc.length ≤ 500 → 2 * rest.length + (500 - acc.length) + 30 ≤ k →
    mummerref01_ParseList.l1 k (fsts ps) (snds ps) R acc (pre.length : Int) = some (expand rest acc) := by
  intro rest
  induction rest with
  | nil =>
    intro pre acc k hp ha hk
    obtain ⟨k, rfl⟩ : ∃ k', k = k' + 1 := ⟨k - 1, by omega⟩
    rw [List.append_nil] at hp
    rw [mummerref01_ParseList.l1, if_neg (by rw [hp, hR]; omega), expand]
  | cons p rest ih =>
    intro pre acc k hp ha hk
    rw [List.length_cons] at hk
    obtain ⟨k, rfl⟩ : ∃ k', k = k' + 1 := ⟨k - 1, by omega⟩
    have hl : ps.length = pre.length + (rest.length + 1) := by rw [← hp, List.length_append, List.length_cons]
    obtain ⟨h1, h2⟩ := hps p (by rw [← hp]; simp)
    have n1 := nd_nine p.1 (by omega)
    have n2 := nd_nine p.2 h2
    have hfl : (fsts ps).length = ps.length := by unfold fsts; rw [List.length_map]
    have hsl : (snds ps).length = ps.length := by unfold snds; rw [List.length_map]
    rw [mummerref01_ParseList.l1, if_pos (by omega), if_pos (by omega), if_pos (by omega)]
    rw [show rdOf ByteArray.empty (fsts ps) (pre.length : Int) = mkB (Lib.decDigits p.1) by rw [← hp]; exact rd_fst pre p rest, show rdOf ByteArray.empty (snds ps) (pre.length : Int) = mkB (Lib.decDigits p.2) by rw [← hp]; exact rd_snd pre p rest]
    rw [rInt_f _ _ _ (by rw [mkB_size, dd_len]; omega) k (by rw [mkB_size, dd_len]; omega), int_dd p.1 (by omega)]
    simp only [Option.bind_some]
    rw [if_pos (by omega), rInt_f _ _ _ (by rw [mkB_size, dd_len]; omega) k (by rw [mkB_size, dd_len]; omega), int_dd p.2 h2]
    simp only [Option.bind_some]
    rw [expand, rl2 _ _ _ _ p.2 h2 (p.2 - p.1 + 1) p.1 acc k (by omega) ha (by omega)]
    by_cases h5 : 500 < acc.length + (p.2 - p.1 + 1)
    · rw [if_pos h5, if_pos h5]
    · rw [if_neg h5, if_neg h5, w64 (by omega) (by omega), show (pre.length : Int) + 1 = (((pre ++ [p]).length : Nat) : Int) by simp]
      exact ih (pre ++ [p]) _ _ (by rw [← hp]; simp) (by rw [List.length_append, rangeL_len]; omega) (by rw [List.length_append, rangeL_len]; omega)
theorem rParse_f (a : ByteArray) (hs : a.size ≤ 30000) (k : Nat) (hk : 300000 ≤ k) : mummerref01_ParseList.f k a = some (parseS a) := by
  unfold mummerref01_ParseList.f parseS
  rw [tl_eq]
  by_cases h0 : a.data.toList = [45]
  · rw [if_pos h0, if_pos h0]
  · rw [if_neg h0, if_neg h0, show (44 : Int) = ((44 : UInt8).toNat : Int) from rfl, rParts_f a 44 (by omega) k (by omega)]
    simp only [Option.bind_some]
    obtain ⟨rs, hrs⟩ : ∃ rs, spA 44 [] a.data.toList = rs := ⟨_, rfl⟩
    have hl := (spA_length 44 a.data.toList []).1
    have hne := spA_nil 44 a.data.toList []
    have hsm := spA_small 44 a.data.toList []
    rw [← Lib.size_eq] at hl hsm
    rw [hrs] at hl hne hsm ⊢
    have hsm' : ∀ r ∈ rs, r.length ≤ 30000 := fun r hr => by have := hsm r hr; simp at this; omega
    have h1 := rl0 rs hsm' (by omega) rs [] none [] k rfl rfl (fun _ => rfl) (fun h => absurd rfl h) (by omega)
    rw [show mummerref01_ParseList.l0 k (⟨#[]⟩ : ByteArray) ([] : List ByteArray) ([] : List ByteArray) (rs.map mkB) 0 = mummerref01_ParseList.l0 k (lastB none) (fsts []) (snds []) (rs.map mkB) ((([] : List (List UInt8)).length : Nat) : Int) from rfl, h1]
    cases hc : chk none rs with
    | none => rfl
    | some ps =>
      simp only
      have hg := ((chk_iff rs none ps).1 hc).2
      have hpl := chk_len rs none ps hc
      have hpne : ps ≠ [] := by
        intro e
        rw [e] at hpl
        exact hne (List.length_eq_zero_iff.1 hpl.symm)
      have hll := good_last ps none hg
      rw [List.nil_append, lastO_N ps none hpne]
      obtain ⟨k', hk'⟩ : ∃ k', k - 2 * rs.length = k' + 1 := ⟨k - 2 * rs.length - 1, by omega⟩
      have n9 := nd_nine 1000000000 (by omega)
      rw [hk', mummerref01_ParseList.l0, if_neg (by rw [List.length_map]; omega), rDig_f 1000000000 (by omega) (by omega) k' (by show 3 * Lib.nDigits 1000000000 + 6 ≤ k'; omega)]
      simp only [Option.bind_some]
      rw [show (⟨(Lib.itoa 1000000000).toArray⟩ : ByteArray) = mkB (Lib.decDigits 1000000000) by rw [itoa_pos 1000000000 (by decide)]; rfl]
      show ((mummerref01_less.f (mkB (Lib.decDigits 1000000000)) (mkB (Lib.decDigits (lastN ps)))).bind _) = _
      rw [rLess_f]
      simp only [Option.bind_some]
      by_cases h9 : 1000000000 < lastN ps
      · rw [decide_eq_true h9, if_pos rfl, if_pos h9]
      · rw [decide_eq_false h9, if_neg Bool.false_ne_true, if_neg h9]
        exact rl1 ps (rs.map mkB) (by rw [List.length_map]; omega) (fun p hp => ⟨(hll p hp).1, by have := (hll p hp).2; omega⟩) (by omega) ps [] [] k' rfl (by simp) (by simp; omega)
end Go.Proofs.YtkalbdeopogbpaaGreatDoor.P.Wq
