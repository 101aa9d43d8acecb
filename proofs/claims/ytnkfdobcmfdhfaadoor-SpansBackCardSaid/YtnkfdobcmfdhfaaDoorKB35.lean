import Derived.Test.YtnkfdobcmfdhfaaDoorKB34
import Derived.Test.YtnkfdobcmfdhfaaDoorKB30
namespace Go.Proofs.YtnkfdobcmfdhfaaDoor.P
open Go.RowKit Go.Proofs.YtnkfdobcmfdhfaaDoorW.PrintWords Go.Proofs.YtnkfdobcmfdhfaaDoorW.PrintLast Sc
set_option linter.unusedVariables false
set_option linter.unusedSimpArgs false
set_option maxRecDepth 20000
theorem toList_sz (a : ByteArray) : a.toList.length = a.size := by
  rw [Go.Lib.toList_data]
  exact Array.length_toList
theorem app_list (a b : ByteArray) : (a ++ b).toList = a.toList ++ b.toList := by
  rw [Go.Lib.toList_data, Go.Lib.toList_data, Go.Lib.toList_data]
  simp
theorem glue (l : List Int) (z t : Nat) (h0 : 0 < z) (h1 : z ≤ t) (h2 : z ≤ l.length) : l.take (z - 1) ++ [bt l (z - 1)] ++ (l.take t).drop z = l.take t := by
  have e1 : l.take z = l.take (z - 1) ++ [bt l (z - 1)] := by
    obtain ⟨y, rfl⟩ : ∃ y, z = y + 1 := ⟨z - 1, by omega⟩
    rw [Nat.add_sub_cancel, List.take_add_one]
    unfold bt
    rw [List.getD_eq_getElem?_getD, List.getElem?_eq_getElem (by omega)]
    rfl
  rw [← e1]
  have := List.take_append_drop z (l.take t)
  rw [List.take_take, Nat.min_eq_left h1] at this
  exact this
theorem back_l0 {l : List Int} (hI : Sc.InB l = true) (hl : l.length ≤ 100) {rs : List (Nat × Nat)} (hg : Sc.goodRuns l = some rs) (hr : GR l 0 rs) (L : List S24) (hL : L.length ≤ 1000) (a1 a2 : Int) (st : List Int) :
    ∀ (r : List S24) (i z : Nat) (acc : ByteArray) (K : Nat), L.drop i = r → LnOK l z r → Sp l z → (i = 0 → z = 0 ∧ acc.toList = []) → (0 < i → 0 < z ∧ acc.toList = Go.Lib.bytesOf (l.take (z - 1)) ∧ bt l (z - 1) = 10) → z ≤ l.length → 20 ≤ K →
      mummerlaw03_SpansBack.l0 (K + r.length + 1) l a1 a2 st L acc i = mummerlaw03_SpansBack.l1 K l a1 a2 st L 0
  | [], i, z, acc, K, _, h, _, _, _, _, _ => by cases h
  | s :: r, i, z, acc, K, hd, h, hz, h0, hp, hzl, hK => by
    have hlt : i < L.length := by
      have := congrArg List.length hd
      rw [List.length_drop, List.length_cons] at this
      omega
    have hd' : L.drop (i + 1) = r := by
      have := congrArg (List.drop 1) hd
      rw [List.drop_drop] at this
      simpa using this
    have hsp : sp L i = s := by
      have := congrArg (fun y => y[0]?) hd
      simp only [List.getElem?_drop, Nat.add_zero, List.getElem?_cons_zero] at this
      unfold sp
      rw [List.getD_eq_getElem?_getD, this]; rfl
    obtain ⟨t, rfl, z1, z2, z3⟩ := h
    have hst : Sp l t := by
      rcases z3 with ⟨_, rfl⟩ | ⟨_, h, _⟩
      · exact .inl rfl
      · exact .inr (by unfold RS; omega)
    have hcut := fun k hk => cut_line hI hg z t z1 z2 (by omega) hz hst k hk
    have hls : (strOfNums ((l.take t).drop z)).size ≤ 100 := by rw [strOfNums_size, List.length_drop, List.length_take]; omega
    have hac : acc.size ≤ 100 := by
      rw [← toList_sz]
      by_cases c : i = 0
      · rw [(h0 c).2]; simp
      · rw [(hp (by omega)).2.1, Go.Lib.bytesOf_length, List.length_take]; omega
    -- what the string is behind this line
    have next : ∀ acc' : ByteArray, acc'.toList = Go.Lib.bytesOf (l.take t) → mummerlaw03_SpansBack.l0 (K + r.length + 1) l a1 a2 st L acc' ((i : Int) + 1) = mummerlaw03_SpansBack.l1 K l a1 a2 st L 0 := by
      intro acc' ha
      rcases z3 with ⟨rfl, rfl⟩ | ⟨z3, z4, z5⟩
      · have hi : i + 1 = L.length := by
          have := congrArg List.length hd'
          rw [List.length_drop, List.length_nil] at this
          omega
        rw [show K + ([] : List S24).length + 1 = K + 1 from rfl]
        simp only [mummerlaw03_SpansBack.l0]
        rw [if_neg (by omega), if_pos]
        rw [ha, Go.Lib.strOfNums_toList, List.take_length]
      · have := back_l0 hI hl hg hr L hL a1 a2 st r (i + 1) (t + 1) acc' K hd' z5 (next10 hr t z3 z4) (fun h => by omega) (fun _ => ⟨by omega, by rw [Nat.add_sub_cancel]; exact ha, by rw [Nat.add_sub_cancel]; exact z4⟩) z3 hK
        rwa [show ((i + 1 : Nat) : Int) = (i : Int) + 1 by omega] at this
    rw [show K + (⟨(z : Int), (t : Int)⟩ :: r : List S24).length + 1 = (K + r.length + 1) + 1 by rw [List.length_cons]; omega]
    generalize hF : K + r.length + 1 = F at next ⊢
    simp only [mummerlaw03_SpansBack.l0]
    rw [if_pos (by omega), if_pos (by omega), rd_sp, hsp]
    dsimp only
    rw [hcut F (by omega), Option.bind_some, if_pos rfl, w64 (n := (i : Int) + 1) (by omega) (by omega)]
    dsimp only
    by_cases c : i = 0
    · rw [if_neg (by omega), if_pos (by omega)]
      obtain ⟨rfl, e⟩ := h0 c
      refine next _ ?_
      rw [app_list, e, Go.Lib.strOfNums_toList, List.drop_zero]; rfl
    · obtain ⟨p0, e, e10⟩ := hp (by omega)
      have hs1 : (acc ++ (⟨#[10]⟩ : ByteArray)).size = acc.size + 1 := by rw [ByteArray.size_append]; rfl
      rw [if_pos (by omega), if_pos (by omega), if_pos (by rw [hs1]; omega)]
      refine next _ ?_
      have b10 : (⟨#[10]⟩ : ByteArray).toList = Go.Lib.bytesOf [10] := by rw [Go.Lib.toList_data]; rfl
      have hgl := glue l z t p0 z1 hzl
      rw [e10] at hgl
      refine Eq.trans ?_ (congrArg Go.Lib.bytesOf hgl)
      rw [app_list, app_list, e, Go.Lib.strOfNums_toList, b10]
      unfold Go.Lib.bytesOf
      rw [List.map_append, List.map_append]
theorem back_end {l : List Int} (hI : Sc.InB l = true) (hl : l.length ≤ 100) {rs : List (Nat × Nat)} (hg : Sc.goodRuns l = some rs) (hr : GR l 0 rs) (L : List S24) (hL : spans_Lines.f l = some (L, 0)) (hO : LnOK l 0 L) (hLl : L.length ≤ 1000) (a1 a2 : Int) (h1 : 0 ≤ a1 ∧ a1 ≤ 255) (h2 : 0 ≤ a2 ∧ a2 ≤ 255) (k : Nat) (hk : 3000 ≤ k) :
    ((spans_At.f k l (wrap64 (a1)) (wrap64 (a2))).bind fun bt602 => (if bt602.2 = 0 then ((spans_Place.f k l bt602.1).bind fun bt604 => (if bt604.2.2 = 0 then (if bt604.1 = (wrap64 (a1)) then (if bt604.2.1 = (wrap64 (a2)) then ((mummerlaw03_awake.f k).bind fun t607 => (some t607)) else (some false)) else (some false)) else (some false))) else (if bt602.2 = 4 then (if bt602.1 = 0 then ((mummerlaw03_awake.f k).bind fun t608 => (some t608)) else (some false)) else (some false)))) = some true := by
  rw [w64 (n := a1) (by omega) (by omega), w64 (n := a2) (by omega) (by omega)]
  have bad : spans_At.f k l a1 a2 = some (0, 4) → ((spans_At.f k l a1 a2).bind fun bt602 => (if bt602.2 = 0 then ((spans_Place.f k l bt602.1).bind fun bt604 => (if bt604.2.2 = 0 then (if bt604.1 = a1 then (if bt604.2.1 = a2 then ((mummerlaw03_awake.f k).bind fun t607 => (some t607)) else (some false)) else (some false)) else (some false))) else (if bt602.2 = 4 then (if bt602.1 = 0 then ((mummerlaw03_awake.f k).bind fun t608 => (some t608)) else (some false)) else (some false)))) = some true := by
    intro e
    rw [e, Option.bind_some, if_neg (by decide), if_pos rfl, if_pos rfl, awake_f k (by omega)]
    rfl
  by_cases c : 1 ≤ a1 ∧ a1 ≤ (L.length : Int)
  · obtain ⟨i, hi⟩ : ∃ i : Nat, a1 = (i : Int) + 1 := ⟨(a1 - 1).toNat, by omega⟩
    subst hi
    have hiL : i < L.length := by omega
    obtain ⟨f, t, e, g1, g2, g3, g4⟩ := LnOK.ge L 0 hO i hiL
    obtain ⟨sf, stt⟩ := g4 rs hr hr.head
    obtain ⟨mf, m1, m2, m3⟩ := hr.at_ f (Nat.zero_le _) (by omega) sf
    obtain ⟨mt, n1, n2, n3⟩ := m3.at_ t g2 g3 stt
    have hat := at_at hI (by omega) L hL (by omega) i f t mt _ hiL e m3 n1 n2 a2 (by omega) k (by omega)
    by_cases c2 : 1 ≤ a2 ∧ a2 ≤ (mt : Int) + 1
    · rw [if_pos c2] at hat
      obtain ⟨m, hm⟩ : ∃ m : Nat, a2 = (m : Int) + 1 := ⟨(a2 - 1).toNat, by omega⟩
      have hmm : m ≤ mt := by omega
      have e2 : (a2 - 1).toNat = m := by omega
      rw [e2] at hat
      have hle : PP l (List.drop mf rs) m ≤ t := by
        rw [← n2]
        by_cases q : m = mt
        · rw [q]; exact Nat.le_refl _
        · exact Nat.le_of_lt (m3.asc m mt (by omega) n1)
      have hpl := place_at hI (by omega) hg hr L hL hO (by omega) i f t _ m _ hiL e m3 (by omega) rfl hle g3 k (by omega)
      rw [hat, Option.bind_some, if_pos rfl]
      dsimp only
      rw [hpl, Option.bind_some, if_pos rfl, if_pos rfl, if_pos hm.symm, awake_f k (by omega)]
      rfl
    · rw [if_neg c2] at hat
      exact bad hat
  · refine bad ?_
    obtain ⟨k, rfl⟩ : ∃ K, k = K + 1 := ⟨k - 1, by omega⟩
    unfold spans_At.f
    rw [hL, Option.bind_some, if_pos rfl]
    dsimp only
    by_cases c2 : a1 < 1
    · rw [if_pos c2]
      simp only [spans_At.j0]
      rfl
    · rw [if_neg c2, decide_eq_true (by omega)]
      simp only [spans_At.j0]
      rfl
theorem back_l1 {l : List Int} (hI : Sc.InB l = true) (hl : l.length ≤ 100) {rs : List (Nat × Nat)} (hg : Sc.goodRuns l = some rs) (hr : GR l 0 rs) (L : List S24) (hL : spans_Lines.f l = some (L, 0)) (hO : LnOK l 0 L) (hLl : L.length ≤ 1000) (a1 a2 : Int) (h1 : 0 ≤ a1 ∧ a1 ≤ 255) (h2 : 0 ≤ a2 ∧ a2 ≤ 255) :
    ∀ (d i k : Nat), i + d = rs.length + 1 → 3000 + d < k → mummerlaw03_SpansBack.l1 k l a1 a2 (rs.map (fun x => ((x.1 : Nat) : Int)) ++ [(l.length : Int)]) L i = some true := by
  have hstl : ((rs.map (fun x => ((x.1 : Nat) : Int)) ++ [(l.length : Int)] : List Int).length : Int) = (rs.length : Int) + 1 := by simp
  have hrl := hr.len
  have hrd : ∀ i : Nat, i ≤ rs.length → rd (rs.map (fun x => ((x.1 : Nat) : Int)) ++ [(l.length : Int)]) (i : Int) = ((PP l rs i : Nat) : Int) := by
    intro i hi
    unfold PP
    show (rs.map (fun x => ((x.1 : Nat) : Int)) ++ [(l.length : Int)]).getD i 0 = _
    have e : rs.map (fun x => ((x.1 : Nat) : Int)) ++ [(l.length : Int)] = (rs.map (fun x => x.1) ++ [l.length]).map (fun n : Nat => (n : Int)) := by simp
    rw [e, List.getD_eq_getElem?_getD, List.getD_eq_getElem?_getD, List.getElem?_map]
    have hlt : i < (rs.map (fun x => x.1) ++ [l.length]).length := by simp; omega
    rw [List.getElem?_eq_getElem hlt]
    rfl
  intro d
  induction d with
  | zero =>
    intro i k hi hk
    obtain ⟨k, rfl⟩ : ∃ K, k = K + 1 := ⟨k - 1, by omega⟩
    simp only [mummerlaw03_SpansBack.l1]
    rw [if_neg (by rw [hstl]; omega)]
    exact back_end hI hl hg hr L hL hO hLl a1 a2 h1 h2 k (by omega)
  | succ d ih =>
    intro i k hi hk
    obtain ⟨k, rfl⟩ : ∃ K, k = K + 1 := ⟨k - 1, by omega⟩
    have hi' : i ≤ rs.length := by omega
    simp only [mummerlaw03_SpansBack.l1]
    rw [if_pos (by rw [hstl]; omega), if_pos (by omega), hrd i hi']
    obtain ⟨q, hq⟩ : ∃ q, PP l rs i = q := ⟨_, rfl⟩
    rw [hq]
    have hql : q ≤ l.length := by rw [← hq]; exact (hr.ge i hi').2
    have hqs : Sp l q := by rw [← hq]; exact hr.sp i hi'
    obtain ⟨c, c1, c2, c3⟩ := LnOK.find L 0 hO q (Nat.zero_le _) hql
    obtain ⟨f, t, e, g1, g2, g3, g4⟩ := LnOK.ge L 0 hO c c1
    rw [e] at c2 c3
    dsimp only at c2 c3
    obtain ⟨sf, stt⟩ := g4 rs hr hr.head
    obtain ⟨mf, m1, m2, m3⟩ := hr.at_ f (Nat.zero_le _) (by omega) sf
    obtain ⟨mt, n1, n2, n3⟩ := m3.at_ t g2 g3 stt
    obtain ⟨m, o1, o2, o3⟩ := m3.at_ q (by omega) hql hqs
    have hmm : m ≤ mt := by
      refine Nat.le_of_not_lt fun h => ?_
      have := m3.asc mt m h o1
      rw [n2, o2] at this
      omega
    have hst := m3.step_le m o1
    rw [o2] at hst
    have hpl := place_at hI (by omega) hg hr L hL hO (by omega) c f t q m _ c1 e m3 o1 o2 (by omega) g3 k (by omega)
    have hat := at_at hI (by omega) L hL (by omega) c f t mt _ c1 e m3 n1 n2 ((m : Int) + 1) (by omega) k (by omega)
    rw [if_pos (by omega), show ((m : Int) + 1 - 1).toNat = m by omega, o2] at hat
    rw [hpl, Option.bind_some]
    dsimp only
    rw [hat, Option.bind_some, if_pos rfl, if_pos rfl, if_pos rfl, if_neg (by omega), if_neg (by omega), w64 (n := (c : Int) + 1 - 1) (by omega) (by omega), show (c : Int) + 1 - 1 = (c : Int) by omega, if_pos (by omega), if_pos (by omega), rd_sp, e]
    dsimp only
    rw [if_neg (by omega), if_neg (by omega), if_neg (by omega), w64 (n := 1 + (q : Int)) (by omega) (by omega), w64 (n := 1 + (q : Int) - f) (by omega) (by omega), if_neg (by omega), w64 (n := (i : Int) + 1) (by omega) (by omega)]
    have := ih (i + 1) k (by omega) (by omega)
    rwa [show ((i + 1 : Nat) : Int) = (i : Int) + 1 by omega] at this
theorem law_back (l : List Int) (a1 a2 : Int) (hl : ∀ z ∈ l, 0 ≤ z ∧ z ≤ 255) (h1 : 0 ≤ a1 ∧ a1 ≤ 255) (h2 : 0 ≤ a2 ∧ a2 ≤ 255) : ∃ k, mummerlaw03_SpansBack.f k l a1 a2 = some true := by
  have hI : Sc.InB l = true := InB_of fun x hx => by have := hl x hx; omega
  refine ⟨20000, ?_⟩
  unfold mummerlaw03_SpansBack.f
  have aw : ∀ st, mummerlaw03_SpansBack.j0 20000 l a1 a2 st true = some true := by
    intro st
    obtain ⟨k, hk⟩ : ∃ k, 20000 = k + 1 := ⟨19999, rfl⟩
    rw [hk]
    simp only [mummerlaw03_SpansBack.j0]
    rw [if_pos trivial, awake_f k (by omega)]
    rfl
  rcases ref_starts l hI with ⟨rs, hn, hr, hs⟩ | ⟨st, e, he, hs⟩
  · rw [hs 20000 (by omega), Option.bind_some]
    by_cases c : (l.length : Int) > 100
    · rw [if_pos c]; exact aw _
    · rw [if_neg c]
      have hg := hr.good hI hn
      obtain ⟨L, hL⟩ : ∃ L, L = linesOf (Sc.lens l 0) 0 := ⟨_, rfl⟩
      have hLi : spans_Lines.f l = some (L, 0) := by unfold spans_Lines.f; rw [hg, hL]; rfl
      have hO : LnOK l 0 L := by
        have := lines_ok l (by omega) l 0 0 rfl (Nat.le_refl _) (Nat.zero_le _)
        rw [hL]; exact this
      have hlen : ∀ (ns : List Nat) (z : Int), (linesOf ns z).length = ns.length := by
        intro ns
        induction ns with
        | nil => intro z; rfl
        | cons n r ih => intro z; simp only [linesOf, List.length_cons, ih]
      have hLl : L.length ≤ 101 := by
        rw [hL, hlen]
        have := Sc.lens_le l 0
        omega
      have hne : L ≠ [] := by intro h; rw [h] at hO; cases hO
      have hpos : 0 < L.length := List.length_pos_iff.2 hne
      show mummerlaw03_SpansBack.j0 20000 l a1 a2 (rs.map (fun x => ((x.1 : Nat) : Int)) ++ [(l.length : Int)]) false = some true
      obtain ⟨k, hk⟩ : ∃ k, 20000 = (k + L.length + 1) + 1 := ⟨20000 - L.length - 2, by omega⟩
      rw [hk]
      simp only [mummerlaw03_SpansBack.j0]
      rw [if_neg (by decide), hLi, Option.bind_some, if_pos rfl]
      dsimp only
      rw [if_neg (by omega)]
      have := back_l0 hI (by omega) hg hr L (by omega) a1 a2 (rs.map (fun x => ((x.1 : Nat) : Int)) ++ [(l.length : Int)]) L 0 0 (⟨#[]⟩ : ByteArray) k rfl hO hr.head (fun _ => ⟨rfl, by rw [Go.Lib.toList_data]⟩) (fun h => by omega) (Nat.zero_le _) (by omega)
      rw [show ((0 : Nat) : Int) = 0 from rfl] at this
      rw [this]
      have hrl := hr.len
      exact back_l1 hI (by omega) hg hr L hLi hO (by omega) a1 a2 h1 h2 (rs.length + 1) 0 k (by omega) (by omega)
  · rw [hs 20000 (by omega), Option.bind_some]
    by_cases c : (l.length : Int) > 100
    · rw [if_pos c]; exact aw _
    · rw [if_neg c]
      dsimp only
      rw [show (e != 0) = true from bne_iff_ne.mpr he]
      exact aw _
end Go.Proofs.YtnkfdobcmfdhfaaDoor.P
