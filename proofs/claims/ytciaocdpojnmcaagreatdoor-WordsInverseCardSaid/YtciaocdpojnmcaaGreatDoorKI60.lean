import Derived.Test.YtciaocdpojnmcaaGreatDoorKI57
import Derived.Test.YtciaocdpojnmcaaGreatDoorKI59
import Derived.Test.YtciaocdpojnmcaaGreatDoorKI48
import Derived.Test.YtciaocdpojnmcaaGreatDoorKI34
namespace Go.Proofs.YtciaocdpojnmcaaGreatDoor.P
open Go.RowKit Go.Proofs.YtciaocdpojnmcaaGreatDoorW.PrintWords Go.Proofs.YtciaocdpojnmcaaGreatDoorW.PrintLast
set_option linter.unusedVariables false
set_option linter.unusedSimpArgs false
set_option maxRecDepth 20000
theorem bytesOf_lists {a b : ByteArray} {r : List Int} (h : bytesOf a = bytesOf b ++ r) : b.size ≤ a.size ∧ a.data.toList = b.data.toList ++ a.data.toList.drop b.size := by
  have hl := congrArg List.length h
  rw [bytesOf_len, List.length_append, bytesOf_len] at hl
  refine ⟨by omega, uint8_inj ?_⟩
  have hr : r = (bytesOf a).drop b.size := by rw [h, List.drop_left' (bytesOf_len b)]
  rw [List.map_append, List.map_drop]
  show bytesOf a = bytesOf b ++ (bytesOf a).drop b.size
  rw [← hr]; exact h
theorem unq_list (a : ByteArray) (h : (unq a).2 ≠ 0) : (unq a).2 = ((quoteS (unq a).1).size : Int) ∧ (quoteS (unq a).1).size ≤ a.size ∧ a.data.toList = (quoteS (unq a).1).data.toList ++ a.data.toList.drop (quoteS (unq a).1).size := by
  obtain ⟨h1, h2, h3⟩ := unq_sound a h
  exact ⟨h1, (bytesOf_lists h3).1, (bytesOf_lists h3).2⟩
theorem unq_lists (a x : ByteArray) (r : List UInt8) (h : a.data.toList = (quoteS x).data.toList ++ r) : unq a = (x, ((quoteS x).size : Int)) := by
  refine unq_complete a x (r.map (fun b => (b.toNat : Int))) ?_
  rw [bytesOf_data, h, List.map_append]; rfl
theorem bareL_iff (s : ByteArray) : ∀ (g p : Nat), p + g = s.size → (bareL s g p = true ↔ 1 ≤ s.size ∧ ∀ j, p ≤ j → j < s.size → isP (bt s j) = true ∧ bt s j ≠ 32) := by
  intro g
  induction g with
  | zero =>
    intro p h
    rw [bareL, decide_eq_true_iff]
    exact ⟨fun h1 => ⟨by omega, fun j h2 h3 => by omega⟩, fun h1 => by omega⟩
  | succ g ih =>
    intro p h
    rw [bareL]
    have h2 := ih (p + 1) (by omega)
    by_cases hp : isP (bt s p) = true
    · rw [if_pos hp]
      by_cases h32 : bt s p = 32
      · rw [if_pos h32]
        exact ⟨(fun h => by cases h), fun h1 => absurd h32 (h1.2 p (Nat.le_refl _) (by omega)).2⟩
      · rw [if_neg h32, h2]
        refine ⟨fun h1 => ⟨h1.1, fun j h3 h4 => ?_⟩, fun h1 => ⟨h1.1, fun j h3 h4 => h1.2 j (by omega) h4⟩⟩
        by_cases he : j = p
        · rw [he]; exact ⟨hp, h32⟩
        · exact h1.2 j (by omega) h4
    · rw [if_neg hp]
      exact ⟨(fun h => by cases h), fun h1 => absurd (h1.2 p (Nat.le_refl _) (by omega)).1 hp⟩
theorem bareS_iff (s : ByteArray) : bareS s = true ↔ 1 ≤ s.size ∧ ∀ j, j < s.size → isP (bt s j) = true ∧ bt s j ≠ 32 := by
  unfold bareS
  rw [bareL_iff s s.size 0 (by omega)]
  exact ⟨fun h => ⟨h.1, fun j hj => h.2 j (Nat.zero_le _) hj⟩, fun h => ⟨h.1, fun j _ hj => h.2 j hj⟩⟩
theorem bt_app (a b : ByteArray) (r : List UInt8) (h : a.data.toList = b.data.toList ++ r) (j : Nat) (hj : j < b.size) : j < a.size ∧ bt a j = bt b j := by
  have hl : a.size = b.size + r.length := by rw [Lib.size_eq, h, List.length_append, ← Lib.size_eq]
  have hja : j < a.size := by omega
  refine ⟨hja, ?_⟩
  rw [← bt_get a j hja, ← bt_get b j hj]
  have h1 : a.data.toList[j]? = b.data.toList[j]? := by rw [h, List.getElem?_append_left (by rw [← Lib.size_eq]; exact hj)]
  have h2 : a.data.toList[j]? = some a[j] := by rw [List.getElem?_eq_getElem (by rw [← Lib.size_eq]; exact hja)]; rfl
  have h3 : b.data.toList[j]? = some b[j] := by rw [List.getElem?_eq_getElem (by rw [← Lib.size_eq]; exact hj)]; rfl
  rw [h2, h3] at h1
  rw [Option.some.inj h1]
/-- A bare field stands first. -/
theorem mlen_bare (a f : ByteArray) (r : List UInt8) (hf : bareS f = true) (h : a.data.toList = f.data.toList ++ r) (hr : r = [] ∨ ∃ s, r = 32 :: s) : (unq a).2 = 0 ∧ Wd.ahead a 32 = f ∧ mlen a = f.size := by
  obtain ⟨h1, h2⟩ := (bareS_iff f).1 hf
  have hl : a.size = f.size + r.length := by rw [Lib.size_eq, h, List.length_append, ← Lib.size_eq]
  obtain ⟨m1, m2, m3⟩ := mlen_facts a
  have hm : mlen a = f.size := by
    rcases Nat.lt_trichotomy (mlen a) f.size with e | e | e
    · have := (bt_app a f r h (mlen a) e)
      exact absurd (this.2 ▸ m3 this.1) (h2 _ e).2
    · exact e
    · rcases hr with hr | ⟨s, hr⟩
      · rw [hr] at hl; simp at hl; omega
      · refine absurd ?_ (m2 f.size e)
        have hfa : f.size < a.size := by rw [hl, hr]; simp
        rw [← bt_get a f.size hfa]
        have e1 : a.data.toList[f.size]? = some 32 := by rw [h, hr, List.getElem?_append_right (by rw [← Lib.size_eq]; exact Nat.le_refl _), ← Lib.size_eq, Nat.sub_self]; rfl
        have e2 : a.data.toList[f.size]? = some a[f.size] := by rw [List.getElem?_eq_getElem (by rw [← Lib.size_eq]; exact hfa)]; rfl
        rw [e2] at e1
        rw [Option.some.inj e1]; rfl
  refine ⟨?_, ?_, hm⟩
  · unfold unq
    rw [if_pos]
    right
    have := (bt_app a f r h 0 (by omega)).2
    rw [show (0 : Int) = ((0 : Nat) : Int) from rfl, this]
    intro e
    have := (h2 0 (by omega)).1
    rw [e] at this
    exact absurd this (by decide)
  · rw [ahead_f, hm, ext_mkB, List.drop_zero, Nat.sub_zero, h, List.take_left' (by rw [← Lib.size_eq]), mkB_of]
theorem ahead_list (a : ByteArray) : a.data.toList = (Wd.ahead a 32).data.toList ++ a.data.toList.drop (mlen a) := by
  rw [ahead_f, ext_mkB, mkB_data, List.drop_zero, Nat.sub_zero, List.take_append_drop]
def pcs (l : List S47) : List (List UInt8) := l.map (fun f => (piece f).data.toList)
theorem fieldOf_f (K : Nat) (a : ByteArray) (hs : a.size ≤ 1000000) (hK : a.size + 2 ≤ K) : Wd.fieldOf K a = if (unq a).2 ≠ 0 then some (some (⟨(unq a).1, true⟩, (unq a).2)) else if bareS (Wd.ahead a 32) = true then some (some (⟨Wd.ahead a 32, false⟩, ((Wd.ahead a 32).size : Int))) else some none := by
  unfold Wd.fieldOf
  rw [unquote_f a hs K hK]
  simp only [Option.bind_some]
  have hu := unq_le a
  have hm := (mlen_facts a).1
  by_cases h : (unq a).2 = 0
  · rw [if_neg (by omega), if_pos hs, if_neg (fun e => e h), isBare_f _ (by rw [ahead_size]; omega) _ (by rw [ahead_size]; omega)]
    rfl
  · rw [if_pos (by omega), if_pos h]
theorem afterG_f (G : ByteArray → Option (List (S47 × Bool))) (a : ByteArray) (f : S47) (n : Nat) (x : List UInt8) (hx : x.length = n) (h : a.data.toList = x ++ a.data.toList.drop n) :
    Wd.afterG G a f (n : Int) = if a.data.toList.drop n = [] then some [(f, true)] else if (a.data.toList.drop n).head? = some 32 then (G (mkB (a.data.toList.drop (n + 1)))).map (fun l => (f, true) :: l) else some [(z47, false)] := by
  have hl : a.size = n + (a.data.toList.drop n).length := by
    have := congrArg List.length h
    rw [List.length_append, ← Lib.size_eq] at this
    omega
  have he : a.extract n a.size = mkB (a.data.toList.drop n) := by
    rw [ext_mkB, List.take_of_length_le (by rw [List.length_drop, ← Lib.size_eq]; omega)]
  unfold Wd.afterG
  rw [if_pos (by omega), Int.toNat_natCast, he]
  by_cases h1 : a.data.toList.drop n = []
  · rw [if_pos h1, if_pos (by rw [h1, Lib.toList_data]; rfl)]
  · rw [if_neg h1, if_neg (by rw [toList_nil, mkB_size]; exact fun e => h1 (List.length_eq_zero_iff.1 e))]
    obtain ⟨c, r, hc⟩ := List.exists_cons_of_ne_nil h1
    rw [hc, bt_zero, List.head?_cons]
    have hr : (mkB (c :: r)).extract 1 (mkB (c :: r)).size = mkB (a.data.toList.drop (n + 1)) := by
      rw [ext_mkB, mkB_data, List.drop_succ_cons, List.drop_zero, List.take_of_length_le (by rw [mkB_size]; simp), ← List.drop_drop, hc]; rfl
    rw [hr]
    by_cases h32 : c = 32
    · rw [if_pos (by rw [h32]; rfl), if_pos (by rw [h32])]
    · rw [if_neg (fun e => h32 (UInt8.toNat_inj.1 (show c.toNat = (32 : UInt8).toNat from by exact_mod_cast e))), if_neg (fun e => h32 (Option.some.inj e))]
/-- What the fields of a line say of it. -/
theorem split_sound (K : Nat) : ∀ (g : Nat) (a : ByteArray) (rs : List (S47 × Bool)), a.size ≤ 1000000 → a.size + 2 ≤ K → Wd.fieldsP K g a = some rs → rs.all (fun x => x.2) = true → rs ≠ [] ∧ a.data.toList = jnC 32 (pcs (rs.map (fun x => x.1))) ∧ (rs.map (fun x => x.1)).all okF = true := by
  intro g
  induction g with
  | zero => intro a rs _ _ h; rw [Wd.fieldsP] at h; cases h
  | succ g ih =>
    intro a rs hs hK h hall
    rw [Wd.fieldsP, fieldOf_f K a hs hK] at h
    have key : ∀ (f : S47) (n : Nat), (piece f).data.toList.length = n → okF f = true → a.data.toList = (piece f).data.toList ++ a.data.toList.drop n → Wd.afterG (Wd.fieldsP K g) a f (n : Int) = some rs → rs ≠ [] ∧ a.data.toList = jnC 32 (pcs (rs.map (fun x => x.1))) ∧ (rs.map (fun x => x.1)).all okF = true := by
      intro f n hn hok hd h
      rw [afterG_f _ a f n _ hn hd] at h
      split at h
      · rename_i h1
        cases h
        refine ⟨by simp, ?_, by simp [hok]⟩
        rw [hd, h1]; rfl
      · rename_i h1
        split at h
        · rename_i h2
          obtain ⟨l, hl, rfl⟩ := Option.map_eq_some_iff.1 h
          obtain ⟨c, r, hc⟩ := List.exists_cons_of_ne_nil h1
          have hlen := congrArg List.length hd
          rw [List.length_append, ← Lib.size_eq, hc, List.length_cons] at hlen
          have hdr : a.data.toList.drop (n + 1) = r := by rw [← List.drop_drop, hc]; rfl
          rw [hc, List.head?_cons] at h2
          have hc32 : c = 32 := Option.some.inj h2
          rw [hdr] at hl
          rw [List.all_cons, Bool.true_and] at hall
          obtain ⟨i1, i2, i3⟩ := ih (mkB r) l (by rw [mkB_size]; omega) (by rw [mkB_size]; omega) hl hall
          refine ⟨by simp, ?_, by simp only [List.map_cons, List.all_cons, hok, i3]; rfl⟩
          rw [mkB_data] at i2
          rw [hd, hc, i2, hc32, List.map_cons]
          unfold pcs
          rw [List.map_cons, jnC, tlC_jn 32 (by simpa using i1)]
        · cases h; exact absurd hall (by decide)
    by_cases hu : (unq a).2 = 0
    · rw [if_neg (fun e => e hu)] at h
      by_cases hb : bareS (Wd.ahead a 32) = true
      · rw [if_pos hb] at h
        simp only [Option.bind_some] at h
        rw [ahead_size] at h
        refine key ⟨Wd.ahead a 32, false⟩ (mlen a) ?_ ?_ (ahead_list a) h
        · show (Wd.ahead a 32).data.toList.length = _
          rw [← Lib.size_eq, ahead_size]
        · show (false || bareS (Wd.ahead a 32)) = true
          rw [hb]; rfl
      · rw [if_neg hb] at h
        simp only [Option.bind_some] at h
        cases h
        exact absurd hall (by decide)
    · rw [if_pos hu] at h
      simp only [Option.bind_some] at h
      obtain ⟨u1, u2, u3⟩ := unq_list a hu
      rw [u1] at h
      exact key ⟨(unq a).1, true⟩ (quoteS (unq a).1).size (Lib.size_eq _).symm rfl u3 h
theorem split_complete (K : Nat) : ∀ (fs : List S47) (g : Nat) (a : ByteArray), fs ≠ [] → a.size ≤ 1000000 → a.size + 2 ≤ K → fs.length ≤ g → fs.all okF = true → a.data.toList = jnC 32 (pcs fs) → Wd.fieldsP K g a = some (fs.map (fun f => (f, true))) := by
  intro fs
  induction fs with
  | nil => intro g a h; exact absurd rfl h
  | cons f fs ih =>
    intro g a _ hs hK hg hok h
    obtain ⟨g, rfl⟩ : ∃ g', g = g' + 1 := ⟨g - 1, by simp at hg; omega⟩
    rw [List.all_cons, Bool.and_eq_true] at hok
    have hp : a.data.toList = (piece f).data.toList ++ tlC 32 (pcs fs) := h
    have hdrop : a.data.toList.drop (piece f).size = tlC 32 (pcs fs) := by rw [hp, List.drop_left' (Lib.size_eq _).symm]
    have hlen : a.size = (piece f).size + (tlC 32 (pcs fs)).length := by rw [Lib.size_eq, hp, List.length_append, ← Lib.size_eq]
    have hfo : Wd.fieldOf K a = some (some (f, ((piece f).size : Int))) := by
      rw [fieldOf_f K a hs hK]
      obtain ⟨s, q⟩ := f
      cases q with
      | true =>
        have hu := unq_lists a s _ hp
        rw [hu]
        have hq := quoteS_len s
        rw [if_pos (show ((quoteS s).size : Int) ≠ 0 by omega)]; rfl
      | false =>
        have hb : bareS s = true := hok.1
        obtain ⟨m1, m2, m3⟩ := mlen_bare a s (tlC 32 (pcs fs)) hb hp (by
          cases fs with
          | nil => exact .inl rfl
          | cons f' fs => exact .inr ⟨_, rfl⟩)
        rw [if_neg (fun e => e m1), m2, if_pos hb]; rfl
    rw [Wd.fieldsP, hfo]
    simp only [Option.bind_some]
    rw [afterG_f _ a f (piece f).size _ (Lib.size_eq _).symm (by rw [hdrop]; exact hp), hdrop]
    cases fs with
    | nil => rw [if_pos (show tlC 32 (pcs []) = [] from rfl)]; rfl
    | cons f' fs =>
      have e1 : tlC 32 (pcs (f' :: fs)) = 32 :: jnC 32 (pcs (f' :: fs)) := rfl
      rw [e1, if_neg (by simp), List.head?_cons, if_pos rfl, ← List.drop_drop, hdrop, e1, List.drop_succ_cons, List.drop_zero]
      rw [e1, List.length_cons] at hlen
      rw [ih g (mkB (jnC 32 (pcs (f' :: fs)))) (by simp) (by rw [mkB_size]; omega) (by rw [mkB_size]; omega) (by simp at hg ⊢; omega) hok.2 (mkB_data _)]
      rfl
theorem joinL_jn : ∀ (xs : List (List UInt8)), Lib.join xs [32] = jnC 32 xs := by
  have ht : ∀ xs : List (List UInt8), Lib.joinTail [32] xs = tlC 32 xs := by
    intro xs
    induction xs with
    | nil => rfl
    | cons x xs ih => exact congrArg (fun t => 32 :: x ++ t) ih
  intro xs
  cases xs with
  | nil => rfl
  | cons x xs => rw [Lib.join_cons, ht]; rfl
theorem joinB_jn (l : List S47) : joinB l = mkB (jnC 32 (pcs l)) := by
  unfold joinB pcs
  rw [joinL_jn, List.map_map]; rfl
theorem inv_SJ (a : ByteArray) (r : List S47 × Int) (hs : a.size ≤ 1000000) (h : words_Split.f a = some r) (h0 : r.2 = 0) : joinS r.1 = (a, 0) ∧ small r.1 := by
  unfold words_Split.f at h
  split at h
  · cases h; exact absurd h0 (by decide)
  · rename_i h8
    split at h
    · rename_i he
      cases h
      have : a = ⟨#[]⟩ := by
        have hz := (toList_nil a).1 he
        rw [← mkB_of a]
        have : a.data.toList = [] := List.length_eq_zero_iff.1 (by rw [← Lib.size_eq]; exact hz)
        rw [this]; rfl
      rw [this]
      exact ⟨rfl, fun x hx => by cases hx⟩
    · obtain ⟨rs, hrs, rfl⟩ := Option.map_eq_some_iff.1 h
      unfold Wd.splitR at h0 ⊢
      split
      · rename_i hall
        rw [if_pos hall] at h0
        split
        · rename_i hl; rw [if_pos hl] at h0; exact absurd h0 (by decide)
        · rename_i hl
          obtain ⟨s1, s2, s3⟩ := split_sound _ _ a rs hs (by omega) hrs hall
          have hb : ∀ x ∈ rs, x.1.f0.size ≤ 2000 := by
            intro x hx
            refine Nat.not_lt.1 (fun hgt => hl (.inl (List.any_eq_true.2 ⟨x, hx, decide_eq_true hgt⟩)))
          have hj : joinB (rs.map (fun x => x.1)) = a := by rw [joinB_jn, ← s2, mkB_of]
          refine ⟨?_, ?_⟩
          · have hok : (joinS (rs.map (fun x => x.1))).2 = 0 := joinS_ok.2 ⟨by
              rw [List.length_map]; exact Nat.not_lt.1 (fun e => hl (.inr e)), by
              rw [List.any_eq_false]
              intro f hf
              obtain ⟨x, hx, rfl⟩ := List.mem_map.1 hf
              have := hb x hx
              unfold bigF
              simp; omega, s3, by rw [hj]; omega⟩
            exact Prod.ext (by rw [joinS_fst hok, hj]) hok
          · intro f hf
            obtain ⟨x, hx, rfl⟩ := List.mem_map.1 hf
            have := hb x hx
            omega
      · rename_i hall
        rw [if_neg hall] at h0
        exact absurd h0 (by decide)
theorem inv_JS (l : List S47) (h : (joinS l).2 = 0) : words_Split.f (joinS l).1 = some (l, 0) := by
  have h1 := joinS_fst h
  obtain ⟨j1, j2, j3, j4⟩ := joinS_ok.1 h
  rw [h1]
  unfold words_Split.f
  rw [if_neg (by omega)]
  by_cases hl : l = []
  · subst hl; rw [joinB_nil, if_pos (by rw [Lib.toList_data])]
  · have hd : (joinB l).data.toList = jnC 32 (pcs l) := by rw [joinB_jn]; rfl
    have hpl : ∀ f : S47, okF f = true → 1 ≤ (piece f).size := by
      intro f hf
      unfold piece
      unfold okF at hf
      split
      · have := quoteS_len f.f0; omega
      · rename_i hq
        have : f.f1 = false := by simpa using hq
        rw [this, Bool.false_or] at hf
        exact bareS_pos hf
    have hne : ¬ (joinB l).toList = [] := by
      rw [toList_nil]
      intro e
      cases l with
      | nil => exact hl rfl
      | cons f fs =>
        rw [List.all_cons, Bool.and_eq_true] at j3
        have := hpl f j3.1
        rw [Lib.size_eq, hd] at e
        have e2 : jnC 32 (pcs (f :: fs)) = (piece f).data.toList ++ tlC 32 (pcs fs) := rfl
        rw [e2, List.length_append, ← Lib.size_eq] at e
        omega
    rw [if_neg hne]
    have hlen : l.length ≤ (joinB l).size + 10 := by
      have hgen : ∀ xs : List (List UInt8), xs.length ≤ (jnC 32 xs).length + 1 := by
        have ht : ∀ xs : List (List UInt8), xs.length ≤ (tlC 32 xs).length := by
          intro xs
          induction xs with
          | nil => exact Nat.le_refl _
          | cons x xs ih => rw [tlC]; simp; omega
        intro xs
        cases xs with
        | nil => simp
        | cons x xs => have := ht xs; rw [jnC]; simp; omega
      have := hgen (pcs l)
      rw [← hd, ← Lib.size_eq] at this
      unfold pcs at this
      rw [List.length_map] at this
      omega
    rw [split_complete _ l _ (joinB l) hl (by omega) (by omega) hlen j3 hd]
    show some (Wd.splitR (l.map (fun f => (f, true)))) = _
    unfold Wd.splitR
    rw [if_pos (by rw [List.all_map]; exact List.all_eq_true.2 (fun _ _ => rfl)), if_neg]
    · rw [List.map_map]
      conv => rhs; rw [← List.map_id l]
      rfl
    · rintro (e | e)
      · rw [List.any_map] at e
        have : l.any bigF = true := e
        rw [j2] at this
        exact absurd this (by decide)
      · rw [List.length_map] at e; omega
end Go.Proofs.YtciaocdpojnmcaaGreatDoor.P
