import Derived.Test.YtdjkdlbokepoaaaGreatDoorKA19
namespace Go.Proofs.YtdjkdlbokepoaaaGreatDoor.P.Sc
open Go.RowKit Go.Shelf YtdjkdlbokepoaaaGreatDoorW.PrintWords YtdjkdlbokepoaaaGreatDoorW.PrintLast YtdjkdlbokepoaaaGreatDoorW.PrintMore
set_option linter.unusedVariables false
set_option linter.unusedSimpArgs false
def runsF : Nat → ByteArray → Nat → Option (List (Nat × Nat))
 | 0, _, _ => none
 | k + 1, s, at_ => if at_ = s.size then some [] else (if at_ < s.size ∧ ((Utf8.decode s at_).1 ≠ 65533 ∨ 1 < (Utf8.decode s at_).2) ∧ Lib.runeLen ((Utf8.decode s at_).1 : Int) = ((Utf8.decode s at_).2 : Int) ∧ 1 ≤ (Utf8.decode s at_).2 ∧ at_ + (Utf8.decode s at_).2 ≤ s.size then (runsF k s (at_ + (Utf8.decode s at_).2)).map ((at_, (Utf8.decode s at_).1) :: ·) else none)
theorem runsF_ok (s : ByteArray) : ∀ (k at_ : Nat) (rs : List (Nat × Nat)), runsF k s at_ = some rs → Runs s at_ rs
 | 0, _, _, h => by cases h
 | k + 1, at_, rs, h => by
  simp only [runsF] at h
  by_cases c : at_ = s.size
  ·rw [if_pos c] at h
   cases h; subst c; exact .stop
  ·rw [if_neg c] at h
   by_cases c2 : at_ < s.size ∧ ((Utf8.decode s at_).1 ≠ 65533 ∨ 1 < (Utf8.decode s at_).2) ∧ Lib.runeLen ((Utf8.decode s at_).1 : Int) = ((Utf8.decode s at_).2 : Int) ∧ 1 ≤ (Utf8.decode s at_).2 ∧ at_ + (Utf8.decode s at_).2 ≤ s.size
   ·rw [if_pos c2] at h
    obtain ⟨rest, h1, rfl⟩ := Option.map_eq_some_iff.mp h
    obtain ⟨a, b, c, d, e⟩ := c2
    exact .step (n := (Utf8.decode s at_).2) a rfl b c d e (runsF_ok s k _ _ h1)
   ·rw [if_neg c2] at h; cases h
def InB (l : List Int) : Bool := l.all fun x => decide (0 ≤ x ∧ x < 256)
def goodRuns (l : List Int) : Option (List (Nat × Nat)) := if l.length ≤ 8000 ∧ InB l = true then runsF (l.length + 1) (strOfNums l) 0 else none
theorem goodRuns_ok {l : List Int} {rs : List (Nat × Nat)} (h : goodRuns l = some rs) : l.length ≤ 8000 ∧ InB l = true ∧ Runs (strOfNums l) 0 rs := by
 unfold goodRuns at h
 by_cases c : l.length ≤ 8000 ∧ InB l = true
 ·rw [if_pos c] at h; exact ⟨c.1, c.2, runsF_ok _ _ _ _ h⟩
 ·rw [if_neg c] at h; cases h
theorem cell_spot {w : World} {a : Addr} {v : Value} (h : w.cell? a = some v) : a.spot = none := by
 cases hs : a.spot with
 | none => rfl
 | some s =>
  simp [World.cell?, hs] at h
  split at h <;> cases h
theorem str_get (l : List Int) (hI : InB l = true) (j : Nat) (hj : j < l.length) : (((strOfNums l).get! j).toNat : Int) = l[j] := by
 have h0 := of_decide_eq_true (List.all_eq_true.1 hI l[j] (List.getElem_mem hj))
 have e : (strOfNums l).get! j = UInt8.ofNat (l[j]).toNat := by
  show (strOfNums l).data[j]! = _
  have : (strOfNums l).data = (l.map fun n => UInt8.ofNat n.toNat).toArray := rfl
  rw [this]
  simp [hj]
 rw [e, UInt8.toNat_ofNat']
 omega
theorem Txt_of_C {w : World} {A : Option Addr} {l : List Int} (hr : Kd.C (Kd.int .u8) w A l.length l) (hI : InB l = true) : Txt w A (strOfNums l) := by
 intro h0
 rw [strOfNums_size] at h0
 obtain ⟨ad, he, hc⟩ := hr.2.2 h0
 subst he
 obtain ⟨b, off, sp⟩ := ad
 have hat : ∀ j (hj : j < l.length), w.cell? ((⟨b, off, sp⟩ : Addr).add j) = some (.int .u8 l[j]) := by
  intro j hj
  obtain ⟨cs, h1, h2, h3⟩ := hc j _ (List.getElem?_eq_getElem hj)
  have h2' : cs = [Value.int .u8 l[j]] := h2
  subst h2'
  have h4 := h3 0 _ rfl
  have e1 : j * (Kd.int .u8).sz + 0 = j := Nat.mul_one j
  rw [e1] at h4
  exact h4
 have hs : sp = none := by
  have := cell_spot (hat 0 h0)
  simpa [Addr.add] using this
 subst hs
 refine ⟨b, off, rfl, fun j hj => ?_⟩
 rw [strOfNums_size] at hj
 have := hat j hj
 rw [Addr.add_lit] at this
 rw [this, str_get l hI j hj]
theorem check_calls (l : List Int) (A : Option Addr) (c : Nat) (rs : List (Nat × Nat)) (w : World) (hr : Kd.C (Kd.int .u8) w A l.length l) (hc : l.length ≤ c) (h : goodRuns l = some rs) (hG : Tab w) :
  Calls Tryz.prog 45 #[.slice A l.length c] w fun e w' => e = .returned (.tuple #[.int .i64 l.length, .int .i64 0]) ∧ Below w.heap.size w w' := by
 obtain ⟨h1, h2, h3⟩ := goodRuns_ok h
 have := check_in A c (strOfNums l) rs (by rw [strOfNums_size]; exact h1) (by rw [strOfNums_size]; exact hc) h3 w (Txt_of_C hr h2) hG
 rw [strOfNums_size] at this
 exact callsIn_wide.1 this
theorem runes_calls (l : List Int) (A : Option Addr) (c : Nat) (rs : List (Nat × Nat)) (w : World) (hr : Kd.C (Kd.int .u8) w A l.length l) (hc : l.length ≤ c) (h : goodRuns l = some rs) (hG : Tab w) :
  Calls Tryz.prog 81 #[.slice A l.length c] w fun e W' => ∃ v, e = .returned (.tuple #[v, .int .i64 0]) ∧ W'.ownsRow w.heap.size 21 1 v (rs.map (fun x => ((x.2 : Nat) : Int))).length ((rs.map (fun x => ((x.2 : Nat) : Int))).map (Value.int .i32)) ∧ Below w.heap.size w W' := by
 obtain ⟨h1, h2, h3⟩ := goodRuns_ok h
 have := runes_in A c (strOfNums l) rs (by rw [strOfNums_size]; exact h1) (by rw [strOfNums_size]; exact hc) h3 w (Txt_of_C hr h2) hG
 rw [strOfNums_size] at this
 exact callsIn_wide.1 this
end Go.Proofs.YtdjkdlbokepoaaaGreatDoor.P.Sc
