/- Plain lemmas over the printed functions, for law_lattice. -/
import Derived.Test.YtkalbdeopogbpaaDoorPx24
import Derived.Test.YtkalbdeopogbpaaDoorL0
import Derived.Test.YtkalbdeopogbpaaDoorL2
import Derived.Test.YtkalbdeopogbpaaDoorL7
namespace Go.Proofs.YtkalbdeopogbpaaDoor.P
open Go.RowKit Go.Proofs.YtkalbdeopogbpaaDoorW.PrintWords Go.Proofs.YtkalbdeopogbpaaDoorW.PrintLast Sc
set_option linter.unusedVariables false
set_option linter.unusedSimpArgs false
set_option maxRecDepth 20000
theorem good_len {s : ByteArray} {l : List Int} (h : Good s l) {n : Nat} (hs : s.size ≤ n) : l.length ≤ n := by have := h.len; omega
theorem lattice_j0 (a b c : ByteArray) (f : Bool) (h : f = false → (a.size ≤ 300 ∧ b.size ≤ 300 ∧ c.size ≤ 300) ∧ chk a = 0 ∧ chk b = 0 ∧ chk c = 0) (k : Nat) (hk : 7000000 < k) : mummerlaw09_ScopesLattice.j0 k a b c f = some true := by
  obtain ⟨k, rfl⟩ : ∃ m, k = m + 1 := ⟨k - 1, by omega⟩
  simp only [mummerlaw09_ScopesLattice.j0]
  cases f with
  | true => rw [if_pos rfl, awake_f k (by omega)]; rfl
  | false =>
    obtain ⟨⟨h1, h2, h3⟩, c1, c2, c3⟩ := h rfl
    have ga := good_of c1
    have gb := good_of c2
    have gc := good_of c3
    have la := good_len ga h1
    have lb := good_len gb h2
    have lc := good_len gc h3
    rw [if_neg (by decide), sIds a (by omega), Option.bind_some, ids_good c1]
    dsimp only
    have e0 : ofS (P a) = (a, 0) := by
      rw [ofS_asc ga.ins ga.asc, ← ga.es]
      exact setSpec_le (by omega)
    rw [sOf _ (by omega), Option.bind_some, e0]
    dsimp only
    rw [sUnion a b (by omega) (by omega) k (by omega), Option.bind_some, sUnion b a (by omega) (by omega) k (by omega), Option.bind_some, if_pos rfl, if_pos rfl, if_pos rfl, lattice_union ga gb (by omega), if_pos rfl, if_pos rfl]
    obtain ⟨m1, n1⟩ := good_meet ga gb
    obtain ⟨m2, n2⟩ := good_meet gb ga
    obtain ⟨m3, n3⟩ := good_meet ga gc
    obtain ⟨m4, n4⟩ := good_meet gb gc
    have p1 := lattice_meet ga gb
    have p2 := lattice_meet3 ga gb gc
    have p3 := lattice_spread ga gb gc (by omega)
    have p4 := lattice_union3 ga gb gc (by omega)
    obtain ⟨m5, n5⟩ := good_meet n1 gc
    obtain ⟨m6, n6⟩ := good_meet ga n4
    obtain ⟨u1, v1⟩ := good_union gb gc (by omega)
    obtain ⟨u2, v2⟩ := good_union ga gb (by omega)
    obtain ⟨m7, n7⟩ := good_meet ga v1
    have q1 := meetL_len (P a) (P b)
    have q2 := meetL_len (P a) (P c)
    have q3 := meetL_len (P b) (P c)
    obtain ⟨u3, v3⟩ := good_union n1 n3 (by omega)
    have w1 := uni_len (P c) (P b)
    have w2 := uni_len (P b) (P a)
    obtain ⟨u4, v4⟩ := good_union ga v1 (by omega)
    obtain ⟨u5, v5⟩ := good_union v2 gc (by omega)
    rw [m1, m2] at p1
    rw [m1, m4] at p2
    rw [m1, m3, u1] at p3
    rw [u1, u2] at p4
    dsimp only at p2 p3 p4
    rw [m5, m6] at p2
    rw [m7, u3] at p3
    rw [u4, u5] at p4
    rw [sMeet a b (by omega) (by omega) k (by omega), Option.bind_some, sMeet b a (by omega) (by omega) k (by omega), Option.bind_some, sMeet a c (by omega) (by omega) k (by omega), Option.bind_some, sMeet b c (by omega) (by omega) k (by omega), Option.bind_some, m1, m2, m3, m4]
    dsimp only
    rw [if_pos rfl, if_pos rfl, if_pos rfl, if_pos rfl, if_pos (by rw [(Prod.mk.inj p1).1])]
    have z1 : (ofP (meetL (P a) (P b))).size ≤ 600 := by rw [ofP_size]; omega
    have z2 : (ofP (meetL (P b) (P c))).size ≤ 600 := by rw [ofP_size]; omega
    have z3 : (ofP (meetL (P a) (P c))).size ≤ 600 := by rw [ofP_size]; omega
    have z4 : (ofP (uni (P b) (P c))).size ≤ 2000 := by rw [ofP_size]; omega
    have z5 : (ofP (uni (P a) (P b))).size ≤ 2000 := by rw [ofP_size]; omega
    rw [sMeet _ c (by omega) (by omega) k (by omega), Option.bind_some, sMeet a _ (by omega) (by omega) k (by omega), Option.bind_some, m5, m6]
    dsimp only
    rw [if_pos rfl, if_pos rfl, if_pos (by rw [(Prod.mk.inj p2).1]), sUnion b c (by omega) (by omega) k (by omega), Option.bind_some, u1]
    dsimp only
    rw [if_pos rfl, sMeet a _ (by omega) (by omega) k (by omega), Option.bind_some, m7, sUnion _ _ (by omega) (by omega) k (by omega), Option.bind_some, u3, sUnion a _ (by omega) (by omega) k (by omega), Option.bind_some, u4, Option.bind_some, lattice_union gb ga (by omega), u2]
    dsimp only
    rw [if_pos rfl, if_pos rfl, if_pos (by rw [(Prod.mk.inj p3).1]), if_pos rfl, sUnion _ c (by omega) (by omega) k (by omega), Option.bind_some, u5]
    dsimp only
    rw [if_pos rfl, if_pos rfl, if_pos (by rw [(Prod.mk.inj p4).1]), awake_f k (by omega)]
    rfl
theorem law_lattice (a b c : ByteArray) : ∃ k, mummerlaw09_ScopesLattice.f k a b c = some true := by
  refine ⟨8000000, ?_⟩
  unfold mummerlaw09_ScopesLattice.f
  have hT := lattice_j0 a b c true (fun h => by cases h) 8000000 (by omega)
  split
  · exact hT
  · split
    · exact hT
    · split
      · exact hT
      · rw [sChk a (by omega), Option.bind_some]
        split
        · rw [sChk b (by omega), Option.bind_some]
          split
          · rw [sChk c (by omega), Option.bind_some]
            refine lattice_j0 a b c _ (fun h => ⟨⟨by omega, by omega, by omega⟩, by assumption, by assumption, ?_⟩) _ (by omega)
            simpa using h
          · exact hT
        · exact hT
end Go.Proofs.YtkalbdeopogbpaaDoor.P
