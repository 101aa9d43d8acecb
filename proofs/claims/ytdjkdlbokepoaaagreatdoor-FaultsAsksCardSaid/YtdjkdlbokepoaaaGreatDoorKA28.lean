import Derived.Test.YtdjkdlbokepoaaaGreatDoorKA14
import Derived.Test.YtdjkdlbokepoaaaGreatDoorKA21
import Derived.Test.YtdjkdlbokepoaaaGreatDoorKA24
import Derived.Test.YtdjkdlbokepoaaaGreatDoorKA27
import Derived.Laws.IdiomStrings
namespace Go.Proofs.YtdjkdlbokepoaaaGreatDoor.P.Ft
open Go.RowKit Go.Shelf YtdjkdlbokepoaaaGreatDoorW.PrintWords YtdjkdlbokepoaaaGreatDoorW.PrintLast YtdjkdlbokepoaaaGreatDoorW.PrintMore
set_option linter.unusedVariables false
set_option linter.unusedSimpArgs false
def nums (s : ByteArray) : List Int := s.data.toList.map fun b => (b.toNat : Int)
theorem nums_length (s : ByteArray) : (nums s).length = s.size := by unfold nums; rw [List.length_map]; rfl
def codesL : List ByteArray := [⟨#[]⟩, ⟨#[110, 105, 108]⟩, ⟨#[97, 114, 103, 117, 109, 101, 110, 116]⟩, ⟨#[116, 111, 111, 32, 108, 111, 110, 103]⟩, ⟨#[110, 111, 110, 101]⟩, ⟨#[102, 117, 101, 108]⟩, ⟨#[102, 111, 114, 109]⟩, ⟨#[114, 97, 110, 103, 101]⟩, ⟨#[116, 119, 105, 99, 101]⟩, ⟨#[115, 116, 97, 116, 101]⟩, ⟨#[117, 110, 98, 111, 117, 110, 100]⟩, ⟨#[97, 109, 98, 105, 103, 117, 111, 117, 115]⟩, ⟨#[112, 108, 97, 99, 101]⟩, ⟨#[109, 97, 99, 114, 111]⟩, ⟨#[109, 97, 116, 99, 104]⟩, ⟨#[101, 97, 114, 108, 121]⟩, ⟨#[108, 101, 116, 114, 101, 99]⟩, ⟨#[97, 112, 112, 108, 121]⟩, ⟨#[97, 114, 105, 116, 121]⟩, ⟨#[116, 121, 112, 101]⟩, ⟨#[111, 118, 101, 114, 102, 108, 111, 119]⟩, ⟨#[100, 105, 118, 105, 100, 101]⟩]
def passesL : List ByteArray := [⟨#[]⟩, ⟨#[108, 101, 120]⟩, ⟨#[114, 101, 97, 100]⟩, ⟨#[101, 120, 112, 97, 110, 100]⟩, ⟨#[115, 117, 114, 102, 97, 99, 101]⟩, ⟨#[115, 117, 103, 97, 114]⟩, ⟨#[115, 116, 101, 112]⟩, ⟨#[108, 105, 102, 116]⟩, ⟨#[109, 111, 100, 101, 108]⟩]
structure All (w : World) : Prop where
 tab : Sc.Tab w
 pow : Pow w
 codes : ∀ i s, codesL[i]? = some s → w.cell? ⟨0, i, none⟩ = some (.string s)
 passes : ∀ i s, passesL[i]? = some s → w.cell? ⟨1, i, none⟩ = some (.string s)
theorem All.stay {w w' : World} (h : All w) (hb : Below w.heap.size w w') : All w' :=
 ⟨h.tab.stay hb, h.pow.stay hb, fun i s hi => cell_stay (h.codes i s hi) hb, fun i s hi => cell_stay (h.passes i s hi) hb⟩
def Cv (w : World) (v : Value) (xs : List Int) : Prop := ∃ A c, v = .slice A xs.length c ∧ xs.length ≤ c ∧ Kd.C (Kd.int .u8) w A xs.length xs
theorem Cv_lower {w : World} {v : Value} {xs : List Int} {p : Prop} (h : Cv w v xs) (_ : p) : Cv w v xs := h
theorem Cv_slice {w : World} {v : Value} {xs : List Int} (h : Cv w v xs) : ∃ A c, v = .slice A xs.length c := by
 obtain ⟨A, c, h1, _⟩ := h
 exact ⟨A, c, h1⟩
theorem Cv_reads' {w : World} {A : Option Addr} {c : Nat} {xs : List Int} (h : Cv w (.slice A xs.length c) xs) : True ∧ xs.length ≤ c ∧ Kd.C (Kd.int .u8) w A xs.length xs := by
 obtain ⟨A', c', h1, h2, h3⟩ := h
 cases h1
 exact ⟨trivial, h2, h3⟩
theorem Cv_below {w w' : World} {v : Value} {xs : List Int} (h : Cv w v xs) (hb : Below w.heap.size w w') : Cv w' v xs := by
 obtain ⟨A, c, h1, h2, h3⟩ := h
 exact ⟨A, c, h1, h2, Kd.C_below h3 hb⟩
theorem Cv_alloc {w : World} {v : Value} {xs : List Int} (h : Cv w v xs) (o : Obj) : Cv (w.alloc o) v xs := Cv_below h (below_alloc (Below.refl _ _) o)
theorem Cv_drew {w : World} {v : Value} {xs : List Int} (h : Cv w v xs) : Cv w.drew v xs := Cv_below h (below_drew (Below.refl _ _))
theorem Cv_drewN {w : World} {v : Value} {xs : List Int} (h : Cv w v xs) (n : Nat) : Cv (w.drewN n) v xs := Cv_below h (pw_below_drewN (Below.refl _ _) n)
def convF (s : ByteArray) : Option (List Int) := if s.size ≤ 1000000 then some (nums s) else none
theorem conv_reads (w : World) (s : ByteArray) (c : Nat) (m : Nat × Nat) (hs : s.size ≤ 1000000) : Kd.C (Kd.int .u8) (w.drew.alloc (.cells (bytesRow s c) 5 m)) (some ⟨w.heap.size, 0, none⟩) (nums s).length (nums s) := by
 refine Kd.C_of_reads (enc := fun n => Value.int .u8 n) (d := 0) ⟨rfl, by rw [nums_length]; omega, fun _ => ⟨_, rfl, fun j hj => ?_⟩⟩
 rw [nums_length] at hj
 rw [show (⟨w.heap.size, 0, none⟩ : Addr).add j = ⟨w.heap.size, 0 + j, none⟩ from Addr.add_lit _ _ _, Nat.zero_add]
 have h2 : (w.drew.alloc (.cells (bytesRow s c) 5 m)).heap[w.heap.size]? = some (.cells (bytesRow s c) 5 m) := by
  show (w.heap.push _)[w.heap.size]? = _
  simp
 simp only [World.cell?, h2]
 unfold bytesRow nums
 have hj1 : j < s.data.size := hj
 rw [Array.getElem?_append_left (by simpa using hj1)]
 simp only [Array.getElem?_map, List.getD_eq_getElem?_getD, List.getElem?_map, Array.getElem?_toList, Array.getElem?_eq_getElem hj1]
 rfl
set_option maxRecDepth 100000 in
theorem upC_ {oi : Oper} {a : Act} {K : Act → World → Prop} {Q : Exit → Act → World → Prop} {w : World} (s : ByteArray) (t : List Int) (ht : convF s = some t)
  (h : ∀ (v : Value) (w' : World), Cv w' v t → Below w.heap.size w w' → Oper.upon Tryz.prog oi a K Q (.ok (Next.value v) w')) :
  Oper.upon Tryz.prog oi a K Q (((convert 9 29 (.string s)).run Tryz.prog w).andThen fun a w' => Result.ok (Next.value a) w') := by
 unfold convF at ht
 by_cases hs : s.size ≤ 1000000
 case neg => rw [if_neg hs] at ht; cases ht
 rw [if_pos hs] at ht
 cases ht
 rw [run_bytes_of_string w 9 29 5 s Tryz.underlying9 Tryz.underlying29 Tryz.underlying5]
 simp only [Result.andThen]
 refine h _ _ ?_ (((Below.refl _ w).drew).alloc (Nat.le_refl _) _)
 refine ⟨_, _, by rw [nums_length], ?_, conv_reads w s _ _ hs⟩
 rw [nums_length]
 exact grownCap_ge w s.size 0 5
theorem contains_calls (s : ByteArray) (w : World) : Calls Tryz.prog 75 #[.string s, .func (.func 76) #[] #[]] w fun e w' => e = .returned (.bool (decide (0 ≤ Lib.idxFunc (fun r => decide (r < 32)) true s))) ∧ Below w.heap.size w w' := by
 refine Tryz.strings_ContainsFunc 76 #[] (enters_of Tryz.func76 (by kernel_rfl) rfl) (fun r => decide (r < 32)) s w (fun W x _ => ?_)
 show Calls Tryz.prog 76 #[.int .i32 (x : Int)] W _
 have e1 : decide ((x : Int) < 32) = decide (x < 32) := decide_eq_decide.2 (by omega)
 go_enter Tryz.func76, Tryz.ntmps76
 go_wp2
 go_ret
 exact ⟨rfl, 0, rfl⟩
theorem C_cells {w : World} {A : Option Addr} {xs : List Int} {n : Nat} (h : Kd.C (Kd.int .u8) w A n xs) : (A = none ∧ xs = []) ∨ ∃ a, A = some a ∧ ∀ i, i < xs.length → w.cell? (a.add i) = some (.int .u8 (xs.getD i 0)) := by
 have hr : ReadsOf (fun n => Value.int .u8 n) 0 w A n xs := Kd.reads_of_C h
 cases A with
 | none =>
  refine .inl ⟨rfl, ?_⟩
  rcases Nat.eq_zero_or_pos n with h0 | h0
  ·exact List.length_eq_zero_iff.1 (hr.1.trans h0)
  ·obtain ⟨ad, e, _⟩ := hr.2.2 h0; cases e
 | some a =>
  refine .inr ⟨a, rfl, fun i hi => ?_⟩
  obtain ⟨ad, e, hc⟩ := hr.2.2 (by have := hr.1; omega)
  cases e
  exact hc i (by have := hr.1; omega)
set_option maxRecDepth 1000000 in
set_option maxHeartbeats 2000000 in
theorem count_none (b2 o2 d c : Nat) (cv : Int) (w : World) (hc2 : w.cell? ⟨b2, o2, none⟩ = some (.int .u8 cv)) :
  Calls Tryz.prog 49 #[.slice none 0 c, .slice (some ⟨b2, o2, none⟩) 1 d] w fun e w' => e = .returned (.int .i64 0) ∧ w' = w := by
 go_enter Tryz.func49, Tryz.ntmps49
 go_wp2
 rw [run_callFunc_extern Tryz.func84 (by kernel_rfl) (by kernel_rfl) (by kernel_rfl) (e := Extern.BytealgCount.count) (by kernel_rfl), Lib.run_countNil w 0 c cv]
 simp only [Result.andThen]
 rw [Oper.upon_value]
 go_wp2
 go_ret
 exact ⟨rfl, rfl⟩
theorem count_calls (A0 : Option Addr) (c0 : Nat) (l0 : List Int) (A1 : Option Addr) (c1 : Nat) (w : World) (hr0 : Kd.C (Kd.int .u8) w A0 l0.length l0) (hr1 : Kd.C (Kd.int .u8) w A1 ([10] : List Int).length [10]) :
  Calls Tryz.prog 49 #[.slice A0 l0.length c0, .slice A1 ([10] : List Int).length c1] w fun e w' => e = .returned (.int .i64 (Lib.countByte (Lib.bytesOf l0) 10 : Nat)) ∧ Below w.heap.size w w' := by
 rcases C_cells hr1 with ⟨_, h⟩ | ⟨a1, rfl, h1⟩
 ·cases h
 have h2 : w.cell? ⟨a1.block, a1.off, none⟩ = some (.int .u8 10) := by
  have h := h1 0 (by decide)
  have hs := Sc.cell_spot h
  have e : a1.add 0 = ⟨a1.block, a1.off, none⟩ := by
   obtain ⟨b, o, s⟩ := a1
   cases s with
   | none => simp [Addr.add]
   | some s => simp [Addr.add] at hs
  rw [e] at h
  exact h
 have e1 : a1 = ⟨a1.block, a1.off, none⟩ := by
  have h := h1 0 (by decide)
  have hs := Sc.cell_spot h
  obtain ⟨b, o, s⟩ := a1
  cases s with
  | none => rfl
  | some s => simp [Addr.add] at hs
 rw [e1]
 rcases C_cells hr0 with ⟨rfl, rfl⟩ | ⟨a0, rfl, h0⟩
 ·refine (count_none _ _ c1 c0 10 w h2).mono ?_
  rintro e w' ⟨rfl, rfl⟩
  exact ⟨rfl, Below.refl _ _⟩
 ·refine (Tryz.bytes_Count_one_at a0 l0.length c0 _ _ c1 l0 10 w rfl h0 h2).mono ?_
  rintro e w' ⟨rfl, rfl⟩
  exact ⟨rfl, Below.refl _ _⟩
end Go.Proofs.YtdjkdlbokepoaaaGreatDoor.P.Ft
