import Derived.Test.YtkalbdeopogbpaaGreatDoorKX21
namespace Go.Proofs.YtkalbdeopogbpaaGreatDoor.P.Sc
open Go.RowKit Go.Shelf Go.Sort Go.Proofs.YtkalbdeopogbpaaGreatDoorW Go.Proofs.YtkalbdeopogbpaaGreatDoorW.PrintWords Go.Proofs.YtkalbdeopogbpaaGreatDoorW.PrintLast Go.Proofs.YtkalbdeopogbpaaGreatDoorW.PrintMore
set_option linter.unusedVariables false
theorem OwnI.alloc {w : World} {base : Nat} {v : Value} {xs : List Int} (h : OwnI w base v xs) (o : Obj) : OwnI (w.alloc o) base v xs := World.ownsRow.alloc h o
theorem ids_calls (s : ByteArray) (hs : s.size ≤ 9223372036854775807) (w : World) :
    Calls Tryz.prog 14 #[.string s] w fun e W' => ∃ v, e = .returned (.tuple #[v, .int .i64 (Ids_p s).2]) ∧ OwnI W' w.heap.size v (Ids_p s).1 ∧ Below w.heap.size w W' := callsIn_wide.1 (ids_in s hs w)
theorem ids_good {s : ByteArray} (h : chk s = 0) : Ids_p s = (P.P s, 0) := by unfold Ids_p; rw [if_pos h]; rfl
theorem ids_bad {s : ByteArray} (h : ¬ chk s = 0) : Ids_p s = ([], chk s) := by unfold Ids_p; rw [if_neg h]
theorem asc_le {l : List Int} (h : Asc l) : l.Pairwise (· ≤ ·) := h.imp fun hab => by omega
def findS (s : ByteArray) (n : Int) : List Int × Int × Bool × Int := if chk s = 0 then (if inR n = true then (P.P s, (insAt n (P.P s) : Nat), (P.P s).contains n, 0) else ([], 0, false, 7)) else ([], 0, false, chk s)
set_option maxHeartbeats 1000000 in
set_option maxRecDepth 100000 in
theorem find_calls (s : ByteArray) (n : Int) (hs : s.size ≤ 9223372036854775807) (w : World) :
    Calls Tryz.prog 25 #[.string s, .int .i64 n] w fun e w' => ∃ v, e = .returned (.tuple #[v, .int .i64 (findS s n).2.1, .bool (findS s n).2.2.1, .int .i64 (findS s n).2.2.2]) ∧ OwnI w' w.heap.size v (findS s n).1 ∧ Below w.heap.size w w' := by
  have HI := fun W => ids_calls s hs W
  by_cases hc : chk s = 0
  · have hi := ids_good hc
    simp only [hi] at HI
    have HI2 := Aside0.mk HI
    have hsz := chk_size hc
    have HL : Aside0 ((P.P s).length ≤ 10000) := ⟨by rw [P_length]; omega⟩
    have HA := Aside0.mk (chk_asc hc)
    by_cases hr : inR n = true
    · have hF : findS s n = (P.P s, ((insAt n (P.P s) : Nat) : Int), (P.P s).contains n, 0) := by unfold findS; rw [if_pos hc, if_pos hr]
      rw [hF]
      have hn := (inR_iff n).1 hr
      have b0 : decide (n < 0) = false := decide_eq_false (by omega)
      have b1 : decide (65535 < n) = false := decide_eq_false (by omega)
      have HK := Aside0.mk (count_insAt n (P.P s) HA.out)
      clear hc hr hi hn HI hF hsz
      go_enter Tryz.func25, Tryz.ntmps25
      go_wp2_with (first
        | (go_at_call 14; refine (HI2.out _).mono ?_; rintro e w2 ⟨v2, rfl, ho, hb⟩; obtain ⟨A2, c2, rfl, _⟩ := OwnI.len ho; have HO := Aside0.mk ho; have HB := Aside0.mk hb; clear ho hb)
        | (go_at_call 57; refine (search_own HO.out (by have := HL.out; omega) (asc_le HA.out) n).mono ?_; rintro e w3 ⟨rfl, q, rfl⟩))
      refine bodyPost_ret (v := .tuple #[.slice A2 (P.P s).length c2, .int .i64 ((P.P s).countP (· < n) : Nat), .bool ((P.P s).contains n), .int .i64 0]) (by simp [results, Tryz.f25, go_sem]) rfl ?_
      refine ⟨_, by rw [HK.out], ?_, ?_⟩
      · exact HO.out.below (pw_below_drewN (Below.refl _ _) q)
      · exact below_step HB.out (pw_below_drewN (Below.refl _ _) q)
    · have hF : findS s n = ([], 0, false, 7) := by unfold findS; rw [if_pos hc, if_neg hr]
      rw [hF]
      have hn : n < 0 ∨ 65535 < n := by
        apply Classical.byContradiction
        intro h
        exact hr ((inR_iff n).2 (by omega))
      clear hc hr hi HI hF hsz
      by_cases h0 : n < 0
      · have b0 : decide (n < 0) = true := decide_eq_true h0
        clear hn h0
        go_enter Tryz.func25, Tryz.ntmps25
        go_wp2_with (go_at_call 14; refine (HI2.out _).mono ?_; rintro e w2 ⟨v2, rfl, ho, hb⟩; obtain ⟨A2, c2, rfl, _⟩ := OwnI.len ho; have HO := Aside0.mk ho; have HB := Aside0.mk hb; clear ho hb)
        exact bodyPost_ret (v := .tuple #[.slice none 0 0, .int .i64 0, .bool false, .int .i64 7]) (by simp [results, Tryz.f25, go_sem]) rfl ⟨_, rfl, World.ownsRow_nil _ _ _ _, HB.out⟩
      · have b0 : decide (n < 0) = false := decide_eq_false h0
        have b1 : decide (65535 < n) = true := decide_eq_true (by omega)
        clear hn h0
        go_enter Tryz.func25, Tryz.ntmps25
        go_wp2_with (go_at_call 14; refine (HI2.out _).mono ?_; rintro e w2 ⟨v2, rfl, ho, hb⟩; obtain ⟨A2, c2, rfl, _⟩ := OwnI.len ho; have HO := Aside0.mk ho; have HB := Aside0.mk hb; clear ho hb)
        exact bodyPost_ret (v := .tuple #[.slice none 0 0, .int .i64 0, .bool false, .int .i64 7]) (by simp [results, Tryz.f25, go_sem]) rfl ⟨_, rfl, World.ownsRow_nil _ _ _ _, HB.out⟩
  · have hi := ids_bad hc
    simp only [hi] at HI
    have HI2 := Aside0.mk HI
    have hF : findS s n = ([], 0, false, chk s) := by unfold findS; rw [if_neg hc]
    rw [hF]
    generalize chk s = j at hc HI2 hi hF
    have b0 : (j == 0) = false := beq_eq_false_iff_ne.mpr hc
    have b1 : (j != 0) = true := bne_iff_ne.mpr hc
    clear hi HI hF hc
    go_enter Tryz.func25, Tryz.ntmps25
    go_wp2_with (go_at_call 14; refine (HI2.out _).mono ?_; rintro e w2 ⟨v2, rfl, ho, hb⟩; obtain ⟨A2, c2, rfl, _⟩ := OwnI.len ho; have HO := Aside0.mk ho; have HB := Aside0.mk hb; clear ho hb)
    exact bodyPost_ret (v := .tuple #[.slice none 0 0, .int .i64 0, .bool false, .int .i64 j]) (by simp [results, Tryz.f25, go_sem]) rfl ⟨_, rfl, World.ownsRow_nil _ _ _ _, HB.out⟩
theorem find_has (s : ByteArray) (n : Int) : (findS s n).2.2.1 = (hasS s n).1 ∧ (findS s n).2.2.2 = (hasS s n).2 := by
  unfold findS hasS
  by_cases h1 : chk s = 0
  · rw [if_pos h1, if_pos h1]
    by_cases h2 : inR n = true
    · rw [if_pos h2, if_pos h2]
      simp
    · rw [if_neg h2, if_neg h2]
      exact ⟨rfl, rfl⟩
  · rw [if_neg h1, if_neg h1]
    exact ⟨rfl, rfl⟩
set_option maxHeartbeats 1000000 in
set_option maxRecDepth 100000 in
theorem has_calls (s : ByteArray) (n : Int) (hs : s.size ≤ 9223372036854775807) (w : World) :
    Calls Tryz.prog 27 #[.string s, .int .i64 n] w fun e w' => e = .returned (.tuple #[.bool (hasS s n).1, .int .i64 (hasS s n).2]) ∧ Below w.heap.size w w' := by
  have HF := Aside0.mk (fun W => find_calls s n hs W)
  obtain ⟨h1, h2⟩ := find_has s n
  rw [← h1, ← h2]
  generalize findS s n = r at HF
  obtain ⟨l, at_, is_, e_⟩ := r
  dsimp only at HF ⊢
  clear h1 h2
  go_enter Tryz.func27, Tryz.ntmps27
  go_wp2_with (go_at_call 25; refine (HF.out _).mono ?_; rintro e w2 ⟨v2, rfl, ho, hb⟩; obtain ⟨A2, c2, rfl, _⟩ := OwnI.len ho; have HB := Aside0.mk hb; clear ho hb)
  go_ret2
  exact ⟨rfl, HB.out⟩
theorem find_add (s : ByteArray) (n : Int) : addS s n = if (findS s n).2.2.2 = 0 then (if (findS s n).2.2.1 = true then setSpec (ofP (findS s n).1) else setSpec (ofP ((findS s n).1.take (findS s n).2.1.toNat ++ n :: (findS s n).1.drop (findS s n).2.1.toNat))) else ((⟨#[]⟩ : ByteArray), (findS s n).2.2.2) := by
  unfold findS addS
  by_cases h1 : chk s = 0
  · rw [if_pos h1, if_pos h1]
    by_cases h2 : inR n = true
    · rw [if_pos h2, if_pos h2]
      simp only [if_pos, Int.toNat_natCast, List.contains_iff_mem]
      unfold ins
      by_cases h3 : n ∈ P.P s
      · rw [if_pos h3, if_pos h3]
      · rw [if_neg h3, if_neg h3]
    · rw [if_neg h2, if_neg h2]
      rfl
  · rw [if_neg h1, if_neg h1]
    simp only
    rw [if_neg h1]
theorem find_drop (s : ByteArray) (n : Int) : dropS s n = if (findS s n).2.2.2 = 0 then (if (findS s n).2.2.1 = true then setSpec (ofP ((findS s n).1.take (findS s n).2.1.toNat ++ (findS s n).1.drop ((findS s n).2.1.toNat + 1))) else setSpec (ofP (findS s n).1)) else ((⟨#[]⟩ : ByteArray), (findS s n).2.2.2) := by
  unfold findS dropS
  by_cases h1 : chk s = 0
  · rw [if_pos h1, if_pos h1]
    by_cases h2 : inR n = true
    · rw [if_pos h2, if_pos h2]
      simp only [if_pos, Int.toNat_natCast, List.contains_iff_mem]
      by_cases h3 : n ∈ P.P s
      · rw [if_pos h3, erase_insAt n _ (chk_asc h1) h3]
      · rw [if_neg h3, List.erase_of_not_mem h3]
    · rw [if_neg h2, if_neg h2]
      rfl
  · rw [if_neg h1, if_neg h1]
    simp only
    rw [if_neg h1]
/-- What is found, told. -/
structure Fnd (s : ByteArray) (n : Int) (l : List Int) (at_ : Nat) (is_ : Bool) : Prop where
  len : l.length ≤ 10000
  ins : InS l
  rng : 0 ≤ n ∧ n < 65536
  at_le : at_ ≤ l.length
  at_lt : is_ = true → at_ < l.length
theorem insAt_lt_len (n : Int) (l : List Int) (ha : Asc l) (h : n ∈ l) : insAt n l < l.length := by
  rcases Nat.lt_or_ge (insAt n l) l.length with h1 | h1
  · exact h1
  · have h2 := insAt_lt n l n (by rw [List.take_of_length_le h1]; exact h)
    omega
theorem find_told (s : ByteArray) (n : Int) (h : (findS s n).2.2.2 = 0) : ∃ l at_ is_, findS s n = (l, ((at_ : Nat) : Int), is_, 0) ∧ Fnd s n l at_ is_ := by
  unfold findS at h ⊢
  by_cases h1 : chk s = 0
  · rw [if_pos h1] at h ⊢
    by_cases h2 : inR n = true
    · rw [if_pos h2]
      have hsz := chk_size h1
      refine ⟨_, _, _, rfl, ⟨by rw [P_length]; omega, P_InS s, (inR_iff n).1 h2, insAt_le n _, fun h3 => insAt_lt_len n _ (chk_asc h1) (by simpa using h3)⟩⟩
    · rw [if_neg h2] at h
      cases h
  · rw [if_neg h1] at h
    exact absurd h h1
theorem ne_new {w : World} {base : Nat} {v : Value} {xs : List Int} (h : OwnI w base v xs) : v.ownBlock ≠ some w.heap.size := fun hh => by
  have := (World.ownsRow.lt h _ hh).2
  omega
theorem delete_own' {w : World} {base : Nat} {v : Value} {xs : List Int} (h : OwnI w base v xs) (i : Nat) (hi : i < xs.length) :
    Calls Tryz.prog 26 #[v, .int .i64 (i : Int), .int .i64 ((i : Int) + 1)] w fun e w' => ∃ v', e = .returned v' ∧ OwnI w' base v' (xs.take i ++ xs.drop (i + 1)) ∧ w.grownBy w' v.ownBlock := by
  have h2 := delete_own h i hi
  rw [show ((i + 1 : Nat) : Int) = (i : Int) + 1 from rfl] at h2
  exact h2
set_option maxHeartbeats 1000000 in
set_option maxRecDepth 100000 in
theorem add_calls (s : ByteArray) (n : Int) (hs : s.size ≤ 9223372036854775807) (w : World) :
    Calls Tryz.prog 13 #[.string s, .int .i64 n] w fun e w' => e = .returned (.tuple #[.string (addS s n).1, .int .i64 (addS s n).2]) ∧ Below w.heap.size w w' := by
  have HF := fun W => find_calls s n hs W
  rw [find_add s n]
  by_cases h0 : (findS s n).2.2.2 = 0
  · obtain ⟨l, at_, is_, he, hf⟩ := find_told s n h0
    rw [if_pos h0]
    rw [he]
    simp only [he] at HF
    have HF := Aside0.mk HF
    have HT := Aside0.mk hf
    have hz := hf.at_le
    clear h0 he hf
    dsimp only
    rw [Int.toNat_natCast]
    cases is_ with
    | true =>
      rw [if_pos rfl]
      go_enter Tryz.func13, Tryz.ntmps13
      go_wp2_with (first
        | (go_at_call 25; refine (HF.out _).mono ?_; rintro e w2 ⟨v2, rfl, ho, hb⟩; obtain ⟨A2, c2, rfl, _, hr2⟩ := OwnI.reads ho; have HR2 := Aside0.mk hr2; have HB := Aside0.mk hb; clear ho hb hr2)
        | (go_at_call 23; refine (set_calls l A2 c2 _ (by have := HT.out.len; omega) HR2.out HT.out.ins).mono ?_; rintro e w5 ⟨rfl, hb⟩; have HB5 := Aside0.mk (below_step HB.out hb); clear hb))
      go_ret2
      exact ⟨rfl, HB5.out⟩
    | false =>
      rw [if_neg (by decide)]
      have HI2 : Aside0 (InS (l.take at_ ++ n :: l.drop at_)) := ⟨fun x hx => by
        rcases List.mem_append.1 hx with h | h
        · exact HT.out.ins x (List.mem_of_mem_take h)
        · rcases List.mem_cons.1 h with rfl | h
          · exact HT.out.rng
          · exact HT.out.ins x (List.mem_of_mem_drop h)⟩
      have HN2 : Aside0 ((l.take at_ ++ n :: l.drop at_).length ≤ 1000000) := ⟨by have := HT.out.len; simp; omega⟩
      obtain ⟨l2, hl2⟩ : ∃ l2, l.take at_ ++ n :: l.drop at_ = l2 := ⟨_, rfl⟩
      rw [hl2] at HI2 HN2 ⊢
      have HE := Aside0.mk hl2
      clear hl2
      go_enter Tryz.func13, Tryz.ntmps13
      go_wp2_with (first
        | (go_at_call 25; refine (HF.out _).mono ?_; rintro e w2 ⟨v2, rfl, ho, hb⟩; obtain ⟨A2, c2, rfl, _⟩ := OwnI.len ho; have HO := Aside0.mk ho; have HB := Aside0.mk hb; clear ho hb)
        | (go_at_call 29; with_reducible refine Calls.mono (insert_own (base := w.heap.size) (OwnI.alloc HO.out (.cells #[.int .i64 n] 3)) (by have := HB.out.size; simp; omega) (by have := HT.out.len; omega) at_ HT.out.at_le n w2.heap.size (World.alloc_heap_new w2 (.cells #[.int .i64 n] 3)) (ne_new HO.out)) ?_; rintro e w3 ⟨v3, rfl, ho, hb⟩; rw [HE.out] at ho; obtain ⟨A3, c3, rfl, _, hr3⟩ := OwnI.reads ho; have HR3 := Aside0.mk hr3; have HB3 := Aside0.mk ((HB.out.alloc HB.out.size _).trans hb); clear ho hb hr3)
        | (go_at_call 23; refine (set_calls l2 A3 c3 _ HN2.out HR3.out HI2.out).mono ?_; rintro e w5 ⟨rfl, hb⟩; have HB5 := Aside0.mk (below_step HB3.out hb); clear hb))
      go_ret2
      exact ⟨rfl, HB5.out⟩
  · rw [if_neg h0]
    have HF := Aside0.mk HF
    generalize findS s n = r at HF h0
    obtain ⟨l, at_, is_, e_⟩ := r
    dsimp only at HF h0 ⊢
    have b1 : (e_ != 0) = true := bne_iff_ne.mpr h0
    clear h0
    go_enter Tryz.func13, Tryz.ntmps13
    go_wp2_with (go_at_call 25; refine (HF.out _).mono ?_; rintro e w2 ⟨v2, rfl, ho, hb⟩; obtain ⟨A2, c2, rfl, _⟩ := OwnI.len ho; have HB := Aside0.mk hb; clear ho hb)
    go_ret2
    exact ⟨rfl, HB.out⟩
set_option maxHeartbeats 1000000 in
set_option maxRecDepth 100000 in
theorem drop_calls (s : ByteArray) (n : Int) (hs : s.size ≤ 9223372036854775807) (w : World) :
    Calls Tryz.prog 10 #[.string s, .int .i64 n] w fun e w' => e = .returned (.tuple #[.string (dropS s n).1, .int .i64 (dropS s n).2]) ∧ Below w.heap.size w w' := by
  have HF := fun W => find_calls s n hs W
  rw [find_drop s n]
  by_cases h0 : (findS s n).2.2.2 = 0
  · obtain ⟨l, at_, is_, he, hf⟩ := find_told s n h0
    rw [if_pos h0]
    rw [he]
    simp only [he] at HF
    have HF := Aside0.mk HF
    have HT := Aside0.mk hf
    clear h0 he hf
    dsimp only
    rw [Int.toNat_natCast]
    cases is_ with
    | false =>
      rw [if_neg (by decide)]
      go_enter Tryz.func10, Tryz.ntmps10
      go_wp2_with (first
        | (go_at_call 25; refine (HF.out _).mono ?_; rintro e w2 ⟨v2, rfl, ho, hb⟩; obtain ⟨A2, c2, rfl, _, hr2⟩ := OwnI.reads ho; have HR2 := Aside0.mk hr2; have HB := Aside0.mk hb; clear ho hb hr2)
        | (go_at_call 23; refine (set_calls l A2 c2 _ (by have := HT.out.len; omega) HR2.out HT.out.ins).mono ?_; rintro e w5 ⟨rfl, hb⟩; have HB5 := Aside0.mk (below_step HB.out hb); clear hb))
      go_ret2
      exact ⟨rfl, HB5.out⟩
    | true =>
      rw [if_pos rfl]
      have hz : (at_ : Int) < 10000 := by have := HT.out.at_lt rfl; have := HT.out.len; omega
      have HI2 : Aside0 (InS (l.take at_ ++ l.drop (at_ + 1))) := ⟨fun x hx => by
        rcases List.mem_append.1 hx with h | h
        · exact HT.out.ins x (List.mem_of_mem_take h)
        · exact HT.out.ins x (List.mem_of_mem_drop h)⟩
      have HN2 : Aside0 ((l.take at_ ++ l.drop (at_ + 1)).length ≤ 1000000) := ⟨by have := HT.out.len; simp; omega⟩
      obtain ⟨l2, hl2⟩ : ∃ l2, l.take at_ ++ l.drop (at_ + 1) = l2 := ⟨_, rfl⟩
      rw [hl2] at HI2 HN2 ⊢
      have HE := Aside0.mk hl2
      clear hl2
      go_enter Tryz.func10, Tryz.ntmps10
      go_wp2_with (first
        | (go_at_call 25; refine (HF.out _).mono ?_; rintro e w2 ⟨v2, rfl, ho, hb⟩; obtain ⟨A2, c2, rfl, _⟩ := OwnI.len ho; have HO := Aside0.mk ho; have HB := Aside0.mk hb; clear ho hb)
        | (go_at_call 26; with_reducible refine Calls.mono (delete_own' HO.out at_ (HT.out.at_lt rfl)) ?_; rintro e w3 ⟨v3, rfl, ho, hg⟩; rw [HE.out] at ho; obtain ⟨A3, c3, rfl, _, hr3⟩ := OwnI.reads ho; have HR3 := Aside0.mk hr3; have HB3 := Aside0.mk (HB.out.grown hg HB.out.size (OwnI.base HO.out)); clear ho hg hr3)
        | (go_at_call 23; refine (set_calls l2 A3 c3 _ HN2.out HR3.out HI2.out).mono ?_; rintro e w5 ⟨rfl, hb⟩; have HB5 := Aside0.mk (below_step HB3.out hb); clear hb))
      go_ret2
      exact ⟨rfl, HB5.out⟩
  · rw [if_neg h0]
    have HF := Aside0.mk HF
    generalize findS s n = r at HF h0
    obtain ⟨l, at_, is_, e_⟩ := r
    dsimp only at HF h0 ⊢
    have b1 : (e_ != 0) = true := bne_iff_ne.mpr h0
    clear h0
    go_enter Tryz.func10, Tryz.ntmps10
    go_wp2_with (go_at_call 25; refine (HF.out _).mono ?_; rintro e w2 ⟨v2, rfl, ho, hb⟩; obtain ⟨A2, c2, rfl, _⟩ := OwnI.len ho; have HB := Aside0.mk hb; clear ho hb)
    go_ret2
    exact ⟨rfl, HB.out⟩
set_option maxHeartbeats 1000000 in
set_option maxRecDepth 100000 in
theorem flip_calls (s : ByteArray) (n : Int) (hs : s.size ≤ 9223372036854775807) (w : World) :
    Calls Tryz.prog 11 #[.string s, .int .i64 n] w fun e w' => e = .returned (.tuple #[.string (flipS s n).1, .int .i64 (flipS s n).2]) ∧ Below w.heap.size w w' := by
  have H1 := fun W => has_calls s n hs W
  have H2 := Aside0.mk (fun W => drop_calls s n hs W)
  have H3 := Aside0.mk (fun W => add_calls s n hs W)
  unfold flipS
  generalize hasS s n = r at H1
  obtain ⟨b, e_⟩ := r
  dsimp only at H1 ⊢
  have H1 := Aside0.mk H1
  cases b with
  | true =>
    rw [if_pos rfl]
    generalize dropS s n = q at H2
    obtain ⟨q1, q2⟩ := q
    dsimp only at H2 ⊢
    go_enter Tryz.func11, Tryz.ntmps11
    go_wp2_with (first
      | (go_at_call 27; refine (H1.out _).mono ?_; rintro e w2 ⟨rfl, hb⟩; have HB := Aside0.mk hb; clear hb)
      | (go_at_call 10; refine (H2.out _).mono ?_; rintro e w3 ⟨rfl, hb⟩; have HB3 := Aside0.mk (below_step HB.out hb); clear hb))
    go_ret2
    exact ⟨rfl, HB3.out⟩
  | false =>
    rw [if_neg (by decide)]
    generalize addS s n = q at H3
    obtain ⟨q1, q2⟩ := q
    dsimp only at H3 ⊢
    go_enter Tryz.func11, Tryz.ntmps11
    go_wp2_with (first
      | (go_at_call 27; refine (H1.out _).mono ?_; rintro e w2 ⟨rfl, hb⟩; have HB := Aside0.mk hb; clear hb)
      | (go_at_call 13; refine (H3.out _).mono ?_; rintro e w3 ⟨rfl, hb⟩; have HB3 := Aside0.mk (below_step HB.out hb); clear hb))
    go_ret2
    exact ⟨rfl, HB3.out⟩
end Go.Proofs.YtkalbdeopogbpaaGreatDoor.P.Sc
