import Derived.Test.YtciaocdpojnmcaaGreatDoorKK20
import Derived.Test.YtciaocdpojnmcaaGreatDoorKK22
namespace Go.Proofs.YtciaocdpojnmcaaGreatDoor.P.Wd
open Go.RowKit Go.Shelf Go.Proofs.YtciaocdpojnmcaaGreatDoorW.PrintWords Go.Proofs.YtciaocdpojnmcaaGreatDoorW.PrintLast Go.Proofs.YtciaocdpojnmcaaGreatDoorW.PrintMore
set_option linter.unusedVariables false
set_option linter.unusedSimpArgs false
/-- The array escapes stands in block 0. -/
structure Esc (w : World) : Prop where
  e0 : w.cell? ⟨0, 0, none⟩ = some (.int .u8 34)
  e1 : w.cell? ⟨0, 1, none⟩ = some (.int .u8 34)
  e2 : w.cell? ⟨0, 2, none⟩ = some (.int .u8 92)
  e3 : w.cell? ⟨0, 3, none⟩ = some (.int .u8 92)
  e4 : w.cell? ⟨0, 4, none⟩ = some (.int .u8 10)
  e5 : w.cell? ⟨0, 5, none⟩ = some (.int .u8 110)
  e6 : w.cell? ⟨0, 6, none⟩ = some (.int .u8 13)
  e7 : w.cell? ⟨0, 7, none⟩ = some (.int .u8 114)
  e8 : w.cell? ⟨0, 8, none⟩ = some (.int .u8 9)
  e9 : w.cell? ⟨0, 9, none⟩ = some (.int .u8 116)
theorem cell_stay {w w' : World} {a : Addr} {v : Value} (h : w.cell? a = some v) (hb : Below w.heap.size w w') : w'.cell? a = some v := (hb.cell (World.block_lt_of_cell? w a h)).trans h
theorem Esc.stay {w w' : World} (h : Esc w) (hb : Below w.heap.size w w') : Esc w' := ⟨cell_stay h.e0 hb, cell_stay h.e1 hb, cell_stay h.e2 hb, cell_stay h.e3 hb, cell_stay h.e4 hb, cell_stay h.e5 hb, cell_stay h.e6 hb, cell_stay h.e7 hb, cell_stay h.e8 hb, cell_stay h.e9 hb⟩
/-- The tables and variables that the walks read. -/
structure All (w : World) : Prop where
  pow : Tab w
  esc : Esc w
  rng : ∃ t p, w.cell? ⟨3, 0, none⟩ = some (.iface t p)
  mx : ∃ m, w.cell? ⟨1, 0, none⟩ = some (.int .i64 m)
theorem All.stay {w w' : World} (h : All w) (hb : Below w.heap.size w w') : All w' := ⟨h.pow.stay hb, h.esc.stay hb, by obtain ⟨t, p, h1⟩ := h.rng; exact ⟨t, p, cell_stay h1 hb⟩, by obtain ⟨m, h1⟩ := h.mx; exact ⟨m, cell_stay h1 hb⟩⟩
theorem esc_ix0 (w : World) : (Instr.index 87 (.agg #[.int .u8 34, .int .u8 34, .int .u8 92, .int .u8 92, .int .u8 10, .int .u8 110, .int .u8 13, .int .u8 114, .int .u8 9, .int .u8 116]) (.int .i64 0)).run Tryz.prog w = .ok (.agg #[.int .u8 34, .int .u8 34]) w := by kernel_rfl
theorem esc_ix1 (w : World) : (Instr.index 87 (.agg #[.int .u8 34, .int .u8 34, .int .u8 92, .int .u8 92, .int .u8 10, .int .u8 110, .int .u8 13, .int .u8 114, .int .u8 9, .int .u8 116]) (.int .i64 1)).run Tryz.prog w = .ok (.agg #[.int .u8 92, .int .u8 92]) w := by kernel_rfl
theorem esc_ix2 (w : World) : (Instr.index 87 (.agg #[.int .u8 34, .int .u8 34, .int .u8 92, .int .u8 92, .int .u8 10, .int .u8 110, .int .u8 13, .int .u8 114, .int .u8 9, .int .u8 116]) (.int .i64 2)).run Tryz.prog w = .ok (.agg #[.int .u8 10, .int .u8 110]) w := by kernel_rfl
theorem esc_ix3 (w : World) : (Instr.index 87 (.agg #[.int .u8 34, .int .u8 34, .int .u8 92, .int .u8 92, .int .u8 10, .int .u8 110, .int .u8 13, .int .u8 114, .int .u8 9, .int .u8 116]) (.int .i64 3)).run Tryz.prog w = .ok (.agg #[.int .u8 13, .int .u8 114]) w := by kernel_rfl
theorem esc_ix4 (w : World) : (Instr.index 87 (.agg #[.int .u8 34, .int .u8 34, .int .u8 92, .int .u8 92, .int .u8 10, .int .u8 110, .int .u8 13, .int .u8 114, .int .u8 9, .int .u8 116]) (.int .i64 4)).run Tryz.prog w = .ok (.agg #[.int .u8 9, .int .u8 116]) w := by kernel_rfl
attribute [local go_sem] esc_ix0 esc_ix1 esc_ix2 esc_ix3 esc_ix4
def letterP (c : Int) : Int := if c = 34 then 34 else if c = 92 then 92 else if c = 10 then 110 else if c = 13 then 114 else if c = 9 then 116 else 0
set_option maxHeartbeats 1000000 in
set_option maxRecDepth 100000 in
theorem letter_calls (c : Int) (w : World) (h : Esc w) :
    Calls Tryz.prog 25 #[.int .u8 c] w fun e w' => e = .returned (.int .u8 (letterP c)) ∧ Below w.heap.size w w' := by
  obtain ⟨e0, e1, e2, e3, e4, e5, e6, e7, e8, e9⟩ := h
  go_enter Tryz.func25, Tryz.ntmps25
  go_wp2
  refine wp_loop_rounds 6 ?_
  rw [rounds_succ]
  by_cases h0 : c = 34
  · subst h0
    go_wp2
    go_ret
    exact ⟨rfl, by repeat (first | exact Below.refl _ _ | refine Below.alloc ?_ (by first | (simp; done) | (simp; omega)) _)⟩
  · have b0 : ((34 : Int) == c) = false := beq_eq_false_iff_ne.mpr (fun e => h0 e.symm)
    go_wp2
    rw [rounds_succ]
    by_cases h1 : c = 92
    · subst h1
      go_wp2
      go_ret
      exact ⟨rfl, by repeat (first | exact Below.refl _ _ | refine Below.alloc ?_ (by first | (simp; done) | (simp; omega)) _)⟩
    · have b1 : ((92 : Int) == c) = false := beq_eq_false_iff_ne.mpr (fun e => h1 e.symm)
      go_wp2
      rw [rounds_succ]
      by_cases h2 : c = 10
      · subst h2
        go_wp2
        go_ret
        exact ⟨rfl, by repeat (first | exact Below.refl _ _ | refine Below.alloc ?_ (by first | (simp; done) | (simp; omega)) _)⟩
      · have b2 : ((10 : Int) == c) = false := beq_eq_false_iff_ne.mpr (fun e => h2 e.symm)
        go_wp2
        rw [rounds_succ]
        by_cases h3 : c = 13
        · subst h3
          go_wp2
          go_ret
          exact ⟨rfl, by repeat (first | exact Below.refl _ _ | refine Below.alloc ?_ (by first | (simp; done) | (simp; omega)) _)⟩
        · have b3 : ((13 : Int) == c) = false := beq_eq_false_iff_ne.mpr (fun e => h3 e.symm)
          go_wp2
          rw [rounds_succ]
          by_cases h4 : c = 9
          · subst h4
            go_wp2
            go_ret
            exact ⟨by first | rfl | (rw [show letterP c = 0 by unfold letterP; rw [if_neg h0, if_neg h1, if_neg h2, if_neg h3, if_neg h4]]; rfl), by repeat (first | exact Below.refl _ _ | refine Below.alloc ?_ (by first | (simp; done) | (simp; omega)) _)⟩
          · have b4 : ((9 : Int) == c) = false := beq_eq_false_iff_ne.mpr (fun e => h4 e.symm)
            go_wp2
            rw [rounds_succ]
            go_wp2
            go_ret
            exact ⟨by first | rfl | (rw [show letterP c = 0 by unfold letterP; rw [if_neg h0, if_neg h1, if_neg h2, if_neg h3, if_neg h4]]; rfl), by repeat (first | exact Below.refl _ _ | refine Below.alloc ?_ (by first | (simp; done) | (simp; omega)) _)⟩
end Go.Proofs.YtciaocdpojnmcaaGreatDoor.P.Wd
