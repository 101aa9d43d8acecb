import Derived.Test.YtdjkdlbokepoaaaGreatDoorKA15
namespace Go.Proofs.YtdjkdlbokepoaaaGreatDoor.P.Sc
open Go.RowKit Go.Shelf YtdjkdlbokepoaaaGreatDoorW.PrintWords YtdjkdlbokepoaaaGreatDoorW.PrintLast YtdjkdlbokepoaaaGreatDoorW.PrintMore
attribute [local go_sem] Oper.semAt_some
set_option linter.unusedVariables false
set_option linter.unusedSimpArgs false
structure TX (Bs : Nat) (A : Option Addr) (cap : Nat) (s : ByteArray) (W : World) : Prop where
 box : W.cell? ⟨Bs, 0, none⟩ = some (.slice A s.size cap)
 txt : Txt W A s
 tab : Tab W
theorem TX.grow {Bs cap : Nat} {A : Option Addr} {s : ByteArray} {W W' : World} {row : Option Nat} (h : TX Bs A cap s W) (hg : W.grownBy W' row) (hr : ∀ r, row = some r → ∃ o : Obj, W.heap[r]? = some o ∧ o.isCells = false) : TX Bs A cap s W' :=
 ⟨cell_kept h.box hg hr, h.txt.grow hg hr, h.tab.grow hg hr⟩
def KB (Bs : Nat) (A : Option Addr) (cap : Nat) (s : ByteArray) (W W' : World) : Prop := TX Bs A cap s W → TX Bs A cap s W'
theorem KB.t {Bs cap : Nat} {A : Option Addr} {s : ByteArray} : ∀ {U V X : World}, KB Bs A cap s U V → KB Bs A cap s V X → KB Bs A cap s U X := fun h h' e => h' (h e)
theorem KB.b {Bs cap : Nat} {A : Option Addr} {s : ByteArray} (W : World) (l : Nat) (o o' : Obj) (ho : W.heap[l]? = some o) (hc : o.isCells = false) : KB Bs A cap s W (W.putObj l o') := fun e =>
 e.grow (grownBy_putObj' W l o') (fun r e => by cases e; exact ⟨o, ho, hc⟩)
theorem below_TX {n₀ Bs cap : Nat} {A : Option Addr} {s : ByteArray} {w B : World} (hn : n₀ = w.heap.size) (h : TX Bs A cap s w) (h' : Below n₀ w B) : TX Bs A cap s B := by
 subst hn
 exact h.grow (grownBy_of_below h') (fun r e => by cases e)
set_option maxRecDepth 100000 in
set_option maxHeartbeats 1000000 in
theorem all1_in (n : Nat) (hn : 1 ≤ n) (l Bs cap : Nat) (A : Option Addr) (s : ByteArray) (rs : List (Nat × Nat)) (hs : s.size ≤ 8000) (hcap : s.size ≤ cap) (hrs : Runs s 0 rs) (J Jx : List (Nat × Nat) → World → Prop) (hJd : ∀ pre W W', J pre W → W.grownBy W' none → J pre W')
  (hY : ∀ pre x W, J pre W → pre.length < rs.length → YieldAt Fence.wide (n - 1) Tryz.prog l #[.int .i64 (x : Nat × Nat).1, .int .i32 x.2] W fun e W' =>
   (e = .returned (.bool true) ∧ J (pre ++ [x]) W' ∧ KB Bs A cap s W W') ∨ (e = .returned (.bool false) ∧ Jx (pre ++ [x]) W'))
  (W : World) (hX : TX Bs A cap s W) (h0 : J [] W) :
  CallsIn Fence.wide n Tryz.prog 103 #[.func (.yield l) #[] #[], .pointer (some ⟨Bs, 0, none⟩)] W fun e W' => (∃ v, e = .returned v) ∧
   (J rs W' ∨ (∃ pre, Jx pre W')) := by
 refine callsIn_of_wp Tryz.func103 rfl trivial ?_ rfl
 simp only [Tryz.ntmps103, List.size_toArray, List.length_cons, List.length_nil, Nat.reduceAdd, Nat.reduceSub, Array.replicate_succ, Array.replicate_zero, List.push_toArray, List.append_toArray, List.nil_append, List.cons_append]
 gi_wp2
 gi_loopw [3] (fun i wr => ∃ (pre rest : List (Nat × Nat)) (at_ : Nat), pre ++ rest = rs ∧ Runs s at_ rest ∧ i = .int .i64 (at_ : Int) ∧ J pre wr ∧ TX Bs A cap s wr)
  (fun i _ => s.size - (intOf i).toNat)
 case atStart => exact ⟨[], rs, 0, rfl, hrs, rfl, h0, hX⟩
 case round =>
  obtain ⟨pre, rest, at_, hpr, hR0, rfl, hJs, hTX⟩ := hrel
  have hbox := hTX.box
  cases hR0 with
  | stop =>
   rw [List.append_nil] at hpr
   subst hpr
   gi_wp2
   go_end0
   exact ⟨⟨_, rfl⟩, .inl hJs⟩
  | @step _ r m rest hat hd hok hlen hm hle hrest =>
   obtain ⟨b, off, rfl, hcells⟩ := hTX.txt (by omega)
   have c1 : decide ((at_ : Int) < (s.size : Int)) = true := decide_eq_true (by omega)
   gi_wp2_with (refine ⟨trivial, (callsIn_wide.2 (decode_good s b off cap at_ r m _ hTX.tab (by omega) hcap hcells hat hd hok)).mono ?_⟩; rintro e wd ⟨rfl, hb⟩; have hTd : TX Bs (some ⟨b, off, none⟩) cap s wd := hTX.grow (grownBy_of_below hb) (fun r e => by cases e); obtain ⟨fn, tmps, assign, body, hy, hR⟩ := hY pre (at_, r) wd (hJd _ _ _ hJs (grownBy_of_below hb)) (by rw [← hpr]; simp); dsimp only at hy; clear hY hd hcells hlen)
   refine hR.mono ?_
   rintro e W3 (⟨rfl, hJ3, hk3⟩ | ⟨rfl, hJx3⟩)
   ·gi_wp2
    go_roundw
    case rel => exact ⟨pre ++ [(at_, r)], rest, at_ + m, by rw [List.append_assoc]; exact hpr, hrest, by simp, hJ3, hk3 hTd⟩
    case measure => simp [intOf]; omega
   ·gi_wp2
    refine bodyPost_ret (results_none rfl _ _ _) rfl ?_
    exact ⟨⟨_, rfl⟩, .inr ⟨_, hJx3⟩⟩
set_option maxHeartbeats 1000000 in
theorem all_in (n : Nat) (A : Option Addr) (len cap : Nat) (w : World) :
  CallsIn Fence.wide n Tryz.prog 77 #[.slice A len cap] w fun e w' => e = .returned (.func (.func 103) #[] #[.pointer (some ⟨w.heap.size, 0, none⟩)]) ∧ w' = w.alloc (.cells #[.slice A len cap] 29) := by
 refine callsIn_of_wp Tryz.func77 rfl trivial ?_ rfl
 simp only [Tryz.ntmps77, List.size_toArray, List.length_cons, List.length_nil, Nat.reduceAdd, Nat.reduceSub, Array.replicate_succ, Array.replicate_zero, List.push_toArray, List.append_toArray, List.nil_append, List.cons_append]
 gi_wp2
 go_ret
 exact ⟨rfl, rfl⟩
theorem all_stops (n : Nat) (hn : 1 ≤ n) (Bs cap : Nat) (A : Option Addr) (s : ByteArray) (rs : List (Nat × Nat)) (hs : s.size ≤ 8000) (hcap : s.size ≤ cap) (hrs : Runs s 0 rs) (w : World) (hX : TX Bs A cap s w) :
  SeqStopsK Fence.wide n Tryz.prog 103 #[.pointer (some ⟨Bs, 0, none⟩)] (fun x : Nat × Nat => #[Value.int .i64 x.1, .int .i32 x.2]) (KB Bs A cap s) (fun ys => ys = rs) (fun _ => True) rs.length w := fun l J Jx W hW hJ _ hY h0 => by
 refine (all1_in n hn l Bs cap A s rs hs hcap hrs J Jx (fun pre W V h hg => hJ pre W V none h hg (fun r e => by cases e)) hY W (below_TX rfl hX hW) h0).mono ?_
 rintro e W' ⟨he, h | ⟨pre, h⟩⟩
 ·exact ⟨he, .inl ⟨_, rfl, h⟩⟩
 ·exact ⟨he, .inr ⟨pre, trivial, h⟩⟩
end Go.Proofs.YtdjkdlbokepoaaaGreatDoor.P.Sc
