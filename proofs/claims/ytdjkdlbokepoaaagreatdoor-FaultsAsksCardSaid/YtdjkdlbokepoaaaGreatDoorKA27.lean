import Derived.Test.YtdjkdlbokepoaaaGreatDoorKA26
import Derived.Deep.LoopGhost
import Derived.Test.YtdjkdlbokepoaaaGreatDoorKA2
namespace Go.Proofs.YtdjkdlbokepoaaaGreatDoor.P.Ft
open Go.RowKit Go.Extern.Stop Go.Stop Go.Extern YtdjkdlbokepoaaaGreatDoorW.PrintWords
set_option linter.unusedSimpArgs false
set_option linter.unusedVariables false
def blk (v : Value) : Nat := match v with
 | .iface _ (.pointer (some a)) => a.block + 1
 | _ => 0
set_option maxHeartbeats 1000000 in
set_option maxRecDepth 20000 in
theorem is2_calls (r : List (Int × Int)) (n : Nat) (v : Value) (c : Int) (w : World) (hr : r ≠ []) (h : ErrAt w n r v) :
  Calls Tryz.prog 99 #[v, .iface 100 (.agg #[.int .i64 c]), .bool true] w fun e w' => e = .returned (.bool (r.any fun x => decide (c = x.2))) ∧ Below w.heap.size w w' := by
 have fE := eq_types
 have fI := hasIs
 have fU := hasUnwrap
 have mI := methodIs
 have mU := methodUnwrap
 obtain ⟨ans, hans⟩ : ∃ ans, (r.any fun x => decide (c = x.2)) = ans := ⟨_, rfl⟩
 rw [hans]
 have HA := Aside0.mk hans
 have HE := Aside0.mk h
 have HB := Aside0.mk (Below.refl w.heap.size w)
 clear hans h
 go_enter Tryz.func99, Tryz.ntmps99
 go_wp2
 go_loopw [0] (fun v0 wr => ∃ (s : List (Int × Int)) (m : Nat), s ≠ [] ∧ Aside0 (ErrAt wr m s v0) ∧ Aside0 ((s.any fun x => decide (c = x.2)) = ans) ∧ Aside0 (Below w.heap.size w wr))
  (fun v0 _ => blk v0)
 case atStart => exact ⟨r, n, hr, HE, HA, HB⟩
 case round =>
  clear HE HA HB
  obtain ⟨s, m, hs, HE, HA, HB⟩ := hrel
  cases s with
  | nil => exact absurd rfl hs
  | cons x s =>
   obtain ⟨p, d⟩ := x
   obtain ⟨b, u, h1, rfl, h2, h3, h4, h5⟩ := HE.out
   clear HE
   simp only at h2 h3
   have H5 := Aside0.mk h5
   clear h5 hs h3 h1
   have HA1 := HA.out
   clear HA
   rw [List.any_cons] at HA1
   have cI := is_calls b c d wr h2
   by_cases hc : c = d
   ·rw [decide_eq_true hc] at cI
    have e1 : ans = true := by rw [← HA1]; simp [hc]
    subst e1
    clear hc HA1 h4 H5
    go_wp2_with (go_at_call 168; refine cI.mono ?_; rintro e w1 ⟨rfl, hb1⟩)
    go_ret
    exact ⟨rfl, HB.out.trans (hb1.mono HB.out.size)⟩
   ·rw [decide_eq_false hc] at cI
    cases s with
    | nil =>
     have e1 : ans = false := by rw [← HA1]; simp [hc]
     subst e1
     have e2 : u = .nilIface := H5.out
     subst e2
     have cU := fun (W : World) (hW : W.cell? ⟨b, 7, none⟩ = some .nilIface) => unwrap_calls b .nilIface W hW (.inl rfl)
     have H4 := Aside0.mk h4
     clear hc HA1 h4 H5
     go_wp2_with (first
      | (go_at_call 168; refine cI.mono ?_; rintro e w1 ⟨rfl, hb1⟩; have HB1 := Aside0.mk hb1; clear hb1)
      | (go_at_call 169; refine (unwrap_calls b .nilIface _ (cell_stay H4.out HB1.out) (.inl rfl)).mono ?_; rintro e w2 ⟨rfl, rfl⟩))
     go_ret
     exact ⟨rfl, HB.out.trans (HB1.out.mono HB.out.size)⟩
    | cons y s =>
     obtain ⟨b2, u2, g1, rfl, g2, g3, g4, g5⟩ := H5.out
     have H4 := Aside0.mk h4
     have H5' := H5
     have HA2 := Aside0.mk (show ((y :: s).any fun x => decide (c = x.2)) = ans by rw [← HA1]; simp [hc])
     have HG := Aside0.mk g1
     clear hc HA1 h4 H5 g1 g2 g3 g4 g5
     go_wp2_with (first
      | (go_at_call 168; refine cI.mono ?_; rintro e w1 ⟨rfl, hb1⟩; have HB1 := Aside0.mk hb1; clear hb1)
      | (go_at_call 169; refine (unwrap_calls b (.iface 125 (.pointer (some ⟨b2, 0, none⟩))) _ (cell_stay H4.out HB1.out) (.inr ⟨_, rfl⟩)).mono ?_; rintro e w2 ⟨rfl, rfl⟩))
     exact ⟨⟨y :: s, b, by simp, ⟨ErrAt.stay HB1.out _ _ _ H5'.out⟩, HA2, ⟨HB.out.trans (HB1.out.mono HB.out.size)⟩⟩, by show b2 + 1 < b + 1; have := HG.out; omega⟩
set_option maxRecDepth 20000 in
theorem Is_calls (r : List (Int × Int)) (n : Nat) (v : Value) (c : Int) (w : World) (hr : r ≠ []) (h : ErrAt w n r v) :
  Calls Tryz.prog 66 #[v, .iface 100 (.agg #[.int .i64 c])] w fun e w' => e = .returned (.bool (r.any fun x => decide (c = x.2))) ∧ Below w.heap.size w w' := by
 have h98 := @run_callFunc_extern Tryz.prog 98 _ ReflectliteType.typeOf Tryz.func98 (by kernel_rfl) (by kernel_rfl) (by kernel_rfl) (by kernel_rfl)
 have h176 := @run_callFunc_extern Tryz.prog 176 _ (ReflectliteType.method fun t => do Go.Extern.Rtype.noPackHeld "Comparable" t; pure (.bool (← typeInfo t).comparable)) Tryz.func176 (by kernel_rfl) (by kernel_rfl) (by kernel_rfl) (by kernel_rfl)
 have tT := typeOf100
 have cT : ∀ W : World, (callFunc 176 #[.agg #[.pointer (some ⟨9, 100, none⟩)]]).run Tryz.prog W = .ok (Next.value (.bool true)) W := fun W => by rw [h176, comparable100]; rfl
 clear h176
 have mC := methodComparable
 have c99 := is2_calls r n v c w hr h
 cases r with
 | nil => exact absurd rfl hr
 | cons x s =>
  obtain ⟨b, u, h1, rfl, h2, h3, h4, h5⟩ := h
  clear hr h1 h2 h3 h4 h5
  generalize (List.any (x :: s) fun x => decide (c = x.2)) = ans at c99 ⊢
  go_enter Tryz.func66, Tryz.ntmps66
  go_wp2_with (go_at_call 99; refine c99.mono ?_; rintro e w1 ⟨rfl, hb1⟩)
  go_ret
  exact ⟨rfl, hb1⟩
end Go.Proofs.YtdjkdlbokepoaaaGreatDoor.P.Ft
