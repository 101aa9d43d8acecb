/- Plain lemmas over the printed functions, for law_others. -/
import Derived.Test.YtpjcahjpjeiicaaPx0
import Derived.Test.YtpjcahjpjeiicaaPx40
import Derived.Test.YtpjcahjpjeiicaaL0
import Derived.Test.YtpjcahjpjeiicaaL4
namespace Go.Proofs.Ytpjcahjpjeiicaa.P
open Go.RowKit Go.Proofs.YtpjcahjpjeiicaaW.PrintWords Go.Proofs.YtpjcahjpjeiicaaW.PrintLast Sc
def Val (l : List S24) : Prop := l.length ≤ 1000 ∧ (∀ b ∈ l, bindErr b = 0) ∧ l.Pairwise fun a b => sameKey a b = false
theorem tgo_back (l : List S24) : ∀ (d i : Nat), i + d = l.length → (∀ (j : Nat) (h : j < l.length), i ≤ j → oneErr l j l[j] = 0) → (tgo l (l.drop i) i).2 = 0
  | 0, i, hi, _ => by rw [List.drop_eq_nil_of_le (by omega)]; rfl
  | d + 1, i, hi, h => by
    have hil : i < l.length := by omega
    rw [List.drop_eq_getElem_cons hil, tgo, if_pos (h i hil (Nat.le_refl i))]
    exact tgo_back l d (i + 1) (by omega) fun j hj hij => h j hj (by omega)
theorem tab_val (l : List S24) : (tab l).2 = 0 ↔ Val l := by
  constructor
  · intro h
    have hlen : l.length ≤ 1000 := by
      unfold tab at h
      by_cases c : (l.length : Int) > 1000
      · rw [if_pos c] at h; cases h
      · omega
    refine ⟨hlen, fun b hb => ?_, ?_⟩
    · obtain ⟨j, hj, rfl⟩ := List.getElem_of_mem hb
      have h1 := tab_ok l h j hj
      unfold oneErr at h1
      by_cases c : bindErr l[j] = 0
      · exact c
      · rw [if_neg c] at h1; exact h1
    · exact List.pairwise_iff_getElem.2 fun i j hi hj hij => one_key l h i j hij hj
  · rintro ⟨h1, h2, h3⟩
    unfold tab
    rw [if_neg (by omega)]
    refine tgo_back l l.length 0 (by omega) fun j hj _ => ?_
    unfold oneErr
    rw [if_pos (h2 _ (List.getElem_mem hj)), if_neg]
    intro h
    obtain ⟨x, hx, hs⟩ := List.any_eq_true.1 h
    obtain ⟨i, hi, rfl⟩ := List.mem_take_iff_getElem.1 hx
    have := List.pairwise_iff_getElem.1 h3 i j (by omega) hj (by omega)
    rw [this] at hs; cases hs
theorem sameKey_symm (a b : S24) : sameKey a b = sameKey b a := by
  unfold sameKey
  congr 1
  · exact decide_eq_decide.2 ⟨Eq.symm, Eq.symm⟩
  · exact decide_eq_decide.2 ⟨Eq.symm, Eq.symm⟩
theorem Val.filter {l : List S24} (h : Val l) (p : S24 → Bool) : Val (l.filter p) :=
  ⟨Nat.le_trans (List.length_filter_le _ _) h.1, fun b hb => h.2.1 b (List.mem_filter.1 hb).1, h.2.2.filter p⟩
theorem Val.reverse {l : List S24} (h : Val l) : Val l.reverse :=
  ⟨by rw [List.length_reverse]; exact h.1, fun b hb => h.2.1 b (List.mem_reverse.1 hb), List.pairwise_reverse.2 (h.2.2.imp fun {a b} hab => by rw [sameKey_symm]; exact hab)⟩
/-- A binding that comes into question. -/
def isK (name set : ByteArray) (b : S24) : Prop := b.f0.toList = name.toList ∧ (subSpec b.f1 set).1 = true
theorem mem_cands {l : List S24} {name set : ByteArray} {i : Nat} (hi : i < l.length) (h : isK name set l[i]) : (i : Int) ∈ cands l name set l.length := by
  refine List.mem_map.2 ⟨i, List.mem_filter.2 ⟨List.mem_range.2 hi, ?_⟩, rfl⟩
  rw [cnd_at l name set i hi, Bool.and_eq_true, decide_eq_true_eq]
  exact h
theorem cands_isK {l : List S24} {name set : ByteArray} {x : Int} (h : x ∈ cands l name set l.length) : ∃ (i : Nat) (hi : i < l.length), x = (i : Int) ∧ isK name set l[i] := by
  obtain ⟨i, hi, e, hc⟩ := cands_mem h
  rw [cnd_at l name set i hi, Bool.and_eq_true, decide_eq_true_eq] at hc
  exact ⟨i, hi, e, hc⟩
theorem res_top {l : List S24} {name set : ByteArray} (hv : Val l) (hs : chk set = 0) {i : Nat} (hi : i < l.length) (hk : isK name set l[i]) (ht : ∀ c ∈ l, isK name set c → (subSpec c.f1 l[i].f1).1 = true) :
    resSpec l name set = ((i : Int), 0) := by
  have hv' := (tab_val l).2 hv
  unfold resSpec askSpec
  rw [if_pos hv', if_pos hs]
  have htop : ∀ x ∈ cands l name set l.length, subT l x (i : Int) = true := by
    intro x hx
    obtain ⟨j, hj, rfl, hkj⟩ := cands_isK hx
    unfold subT
    rw [rdT l j hj, rdT l i hi]
    exact ht _ (List.getElem_mem hj) hkj
  have hm := mem_cands hi hk
  refine findTop_first l _ (i : Int) (fun x hx hx' => ?_) _ (fun _ h => h) hm (List.all_eq_true.2 htop)
  exact cands_anti l name set hv' x hx _ hm (htop x hx) (List.all_eq_true.1 hx' _ hm)
theorem res_none {l : List S24} {name set : ByteArray} (hv : Val l) (hs : chk set = 0) (h : ∀ c ∈ l, ¬ isK name set c) : resSpec l name set = (0, 10) := by
  have hv' := (tab_val l).2 hv
  unfold resSpec askSpec
  rw [if_pos hv', if_pos hs]
  have : cands l name set l.length = [] := by
    refine List.eq_nil_iff_forall_not_mem.2 fun x hx => ?_
    obtain ⟨i, hi, _, hk⟩ := cands_isK hx
    exact h _ (List.getElem_mem hi) hk
  rw [this]
  rfl
theorem res_amb {l : List S24} {name set : ByteArray} (hv : Val l) (hs : chk set = 0) (b : S24) (hb : b ∈ l) (hk : isK name set b) (h : ∀ c ∈ l, isK name set c → ∃ d ∈ l, isK name set d ∧ ¬ (subSpec d.f1 c.f1).1 = true) : resSpec l name set = (0, 11) := by
  have hv' := (tab_val l).2 hv
  unfold resSpec askSpec
  rw [if_pos hv', if_pos hs]
  obtain ⟨i, hi, rfl⟩ := List.getElem_of_mem hb
  have hm := mem_cands hi hk
  refine findTop_none l _ (fun e => by rw [e] at hm; cases hm) _ fun x hx ht => ?_
  obtain ⟨j, hj, rfl, hkj⟩ := cands_isK hx
  obtain ⟨d, hd, hkd, hn⟩ := h _ (List.getElem_mem hj) hkj
  obtain ⟨m, hm', rfl⟩ := List.getElem_of_mem hd
  have := List.all_eq_true.1 ht _ (mem_cands hm' hkd)
  unfold subT at this
  rw [rdT l m hm', rdT l j hj] at this
  exact hn this
/-- Two tables with the same bindings in question: the same answer. -/
theorem res_two {l m : List S24} {name set : ByteArray} (hl : Val l) (hm : Val m) (hs : chk set = 0) (h : ∀ b, isK name set b → (b ∈ l ↔ b ∈ m)) :
    (resSpec m name set).2 = (resSpec l name set).2 ∧ ((resSpec l name set).2 = 0 → ∃ (i j : Nat) (hi : i < l.length) (hj : j < m.length), (resSpec l name set).1 = (i : Int) ∧ (resSpec m name set).1 = (j : Int) ∧ m[j] = l[i]) := by
  by_cases c1 : ∃ b ∈ l, isK name set b
  · by_cases c2 : ∃ b ∈ l, isK name set b ∧ ∀ c ∈ l, isK name set c → (subSpec c.f1 b.f1).1 = true
    · obtain ⟨b, hb, hk, ht⟩ := c2
      obtain ⟨i, hi, e⟩ := List.getElem_of_mem hb
      obtain ⟨j, hj, e'⟩ := List.getElem_of_mem ((h b hk).1 hb)
      have r1 := res_top hl hs hi (e ▸ hk) (fun c hc hkc => e ▸ ht c hc hkc)
      have r2 := res_top hm hs hj (e' ▸ hk) (fun c hc hkc => e' ▸ ht c ((h c hkc).2 hc) hkc)
      rw [r1, r2]
      exact ⟨rfl, fun _ => ⟨i, j, hi, hj, rfl, rfl, by rw [e, e']⟩⟩
    · obtain ⟨b, hb, hk⟩ := c1
      have no : ∀ c ∈ l, isK name set c → ∃ d ∈ l, isK name set d ∧ ¬ (subSpec d.f1 c.f1).1 = true := by
        intro c hc hkc
        apply Classical.byContradiction
        intro hn
        refine c2 ⟨c, hc, hkc, fun d hd hkd => ?_⟩
        apply Classical.byContradiction
        intro hn'
        exact hn ⟨d, hd, hkd, hn'⟩
      have r1 := res_amb hl hs b hb hk no
      have r2 := res_amb hm hs b ((h b hk).1 hb) hk (fun c hc hkc => by
        obtain ⟨d, hd, hkd, hn⟩ := no c ((h c hkc).2 hc) hkc
        exact ⟨d, (h d hkd).1 hd, hkd, hn⟩)
      rw [r1, r2]
      exact ⟨rfl, fun e => by cases e⟩
  · have no : ∀ c ∈ l, ¬ isK name set c := fun c hc hk => c1 ⟨c, hc, hk⟩
    have r1 := res_none hl hs no
    have r2 := res_none hm hs (fun c hc hk => no c ((h c hk).2 hc) hk)
    rw [r1, r2]
    exact ⟨rfl, fun e => by cases e⟩
theorem TB_sub {B : Nat} {l m : List S24} (h : TB B l) (hs : ∀ b ∈ m, b ∈ l) : TB B m := fun b hb => h b (hs b hb)
structure Ot (l : List S24) (name set : ByteArray) : Prop where
  tb : TB 150 l
  nb : name.size ≤ 150
  sb : set.size ≤ 150
  hv : Val l
  hs : chk set = 0
theorem ot_j2 {l name set} (g : Ot l name set) (k : Nat) (hk : 6000010 < k) : mummerlaw11_BindsOthers.j2 k l name set false = some true := by
  obtain ⟨k, rfl⟩ : ∃ m, k = m + 1 := ⟨k - 1, by omega⟩
  have hlen := g.hv.1
  have hb : (⟨name, set, 1, 0⟩ : S24).f0.size ≤ 150 ∧ (⟨name, set, 1, 0⟩ : S24).f1.size ≤ 150 := ⟨g.nb, g.sb⟩
  simp only [mummerlaw11_BindsOthers.j2]
  have ha := bAdd_f 150 (by decide) l g.tb (by omega) ⟨name, set, 1, 0⟩ hb
  dsimp only at ha
  rw [if_neg (by decide), ha, Option.bind_some]
  unfold addSpec
  rw [if_pos ((tab_val l).2 g.hv)]
  by_cases c : (tab (l ++ [⟨name, set, 1, 0⟩])).2 = 0
  · rw [if_pos c, if_pos rfl]
    have hv := (tab_val _).1 c
    have hle := hv.1
    dsimp only
    rw [bResolve_f 150 (by decide) _ (TB_add g.tb hb) (by omega) name set g.sb k (by omega), Option.bind_some]
    have hl : l.length < (l ++ [(⟨name, set, 1, 0⟩ : S24)]).length := by simp
    have e : (l ++ [(⟨name, set, 1, 0⟩ : S24)])[l.length] = ⟨name, set, 1, 0⟩ := by simp
    have r := res_top (name := name) (set := set) hv g.hs hl (by rw [e]; exact ⟨rfl, subSpec_iff.2 ⟨g.hs, g.hs, fun _ h => h⟩⟩) (fun c _ hkc => by rw [e]; exact hkc.2)
    rw [r]
    dsimp only
    rw [if_pos rfl, if_pos rfl, if_pos (by rw [w64 (by omega) (by omega), List.length_append, List.length_singleton]; omega), awake_f k (by omega)]
    rfl
  · rw [if_neg c]
    dsimp only
    rw [if_neg c, awake_f k (by omega)]
    rfl
theorem ot_l0 {l name set} (g : Ot l name set) : ∀ (d j k : Nat), j + d = l.length → d + 6000012 < k →
    mummerlaw11_BindsOthers.l0 k l name set (resSpec l name set).1 (resSpec l name set).2 ((l.take j).filter fun b => decide (b.f0.toList = name.toList)) (l.take j).reverse (j : Int) = some true := by
  have hlen := g.hv.1
  intro d
  induction d with
  | zero =>
    intro j k hj hk
    obtain ⟨k, rfl⟩ : ∃ m, k = m + 1 := ⟨k - 1, by omega⟩
    simp only [mummerlaw11_BindsOthers.l0]
    rw [if_neg (by omega), List.take_of_length_le (by omega)]
    have vf := g.hv.filter fun b => decide (b.f0.toList = name.toList)
    have vr := g.hv.reverse
    have lf := vf.1; have lr := vr.1
    rw [bResolve_f 150 (by decide) _ (TB_sub g.tb fun b hb => (List.mem_filter.1 hb).1) (by omega) name set g.sb k (by omega), Option.bind_some,
      bResolve_f 150 (by decide) _ (TB_sub g.tb fun b hb => List.mem_reverse.1 hb) (by omega) name set g.sb k (by omega), Option.bind_some]
    obtain ⟨f1, f2⟩ := res_two g.hv vf g.hs (fun b hb => ⟨fun h => List.mem_filter.2 ⟨h, decide_eq_true hb.1⟩, fun h => (List.mem_filter.1 h).1⟩)
    obtain ⟨t1, t2⟩ := res_two g.hv vr g.hs (fun b hb => List.mem_reverse.symm)
    rw [if_pos f1, if_pos t1]
    by_cases c : (resSpec l name set).2 = 0
    · rw [if_pos c]
      obtain ⟨i, a, hi, ha, e1, e2, e3⟩ := f2 c
      obtain ⟨i', b, hi', hb, e1', e2', e3'⟩ := t2 c
      have : i' = i := by omega
      subst this
      rw [e1, e2, e2', if_neg (by omega), if_neg (by omega), if_neg (by omega), if_neg (by omega), if_neg (by omega), if_neg (by omega), if_pos (by omega), if_pos (by omega), if_pos (by omega), if_pos (by omega),
        rdT l i' hi, rdT _ a ha, rdT _ b hb, e3, e3', if_neg (by simp), if_pos (by omega), if_pos (by omega)]
      rw [show (!(l[i'].f0.toList == l[i'].f0.toList) || (!(l[i'].f1.toList == l[i'].f1.toList) || (!(l[i'].f2 == l[i'].f2) || !(l[i'].f3 == l[i'].f3)))) = false from by simp]
      exact ot_j2 g k (by omega)
    · rw [if_neg c]
      exact ot_j2 g k (by omega)
  | succ d ih =>
    intro j k hj hk
    obtain ⟨k, rfl⟩ : ∃ m, k = m + 1 := ⟨k - 1, by omega⟩
    have hjl : j < l.length := by omega
    have hn := ih (j + 1) k (by omega) (by omega)
    rw [List.take_add_one, List.getElem?_eq_getElem hjl, Option.toList_some, List.filter_append, List.reverse_append] at hn
    have hfl := List.length_filter_le (fun b : S24 => decide (b.f0.toList = name.toList)) (l.take j)
    have htl : (l.take j).length ≤ 1000 := by rw [List.length_take]; omega
    simp only [mummerlaw11_BindsOthers.l0, rdT l j hjl, wnext j (by omega)]
    rw [if_pos (by omega), if_pos (by omega)]
    by_cases c : l[j].f0.toList = name.toList
    · rw [if_pos c, if_pos (by omega), Option.bind_some, if_pos (by simp only [List.length_singleton, List.length_reverse]; omega)]
      rw [List.filter_cons_of_pos (by exact decide_eq_true c)] at hn
      exact hn
    · rw [if_neg c, Option.bind_some, if_pos (by simp only [List.length_singleton, List.length_reverse]; omega)]
      rw [List.filter_cons_of_neg (by simpa using c), List.filter_nil, List.append_nil] at hn
      exact hn
theorem law_others (l : List S24) (n s : ByteArray) : ∃ k, mummerlaw11_BindsOthers.f k l n s = some true := by
  refine ⟨9000001, ?_⟩
  unfold mummerlaw11_BindsOthers.f
  rw [far_f l _ (by simp) 9000001 (by simp), Option.bind_some]
  have ha := awake_f 9000001 (by decide)
  have ha' := awake_f 9000000 (by decide)
  by_cases c : farB l [n, s] = true
  · rw [if_pos c, ha]; rfl
  · obtain ⟨h1, h2, h3⟩ := far_no (Bool.eq_false_iff.2 c)
    have hs : s.size ≤ 150 := h3 _ (by simp)
    have hnb : n.size ≤ 150 := h3 _ (by simp)
    have hbad : askSpec l s ≠ 0 → mummerlaw11_BindsOthers.j0 9000001 l n s (resSpec l n s).1 (resSpec l n s).2 true = some true := by
      intro h
      simp only [mummerlaw11_BindsOthers.j0]
      rw [if_pos trivial, if_neg (by unfold resSpec; rw [if_neg h]; exact h), ha']; rfl
    rw [if_neg c, bResolve_f 150 (by decide) l h2 (by omega) n s hs _ (by omega), Option.bind_some,
      bindsCheck_f l (fun x hx => ⟨by have := (h2 x hx).1; omega, by have := (h2 x hx).2; omega⟩), Option.bind_some]
    by_cases c1 : (tab l).2 = 0
    · rw [if_pos c1, check_f s (by omega) _ (by omega), Option.bind_some]
      by_cases c2 : chk s = 0
      · rw [c2]
        have g : Ot l n s := ⟨h2, hnb, hs, (tab_val l).1 c1, c2⟩
        show mummerlaw11_BindsOthers.j0 9000001 l n s (resSpec l n s).1 (resSpec l n s).2 false = some true
        simp only [mummerlaw11_BindsOthers.j0]
        rw [if_neg (by decide)]
        exact ot_l0 g l.length 0 9000000 (by omega) (by omega)
      · rw [show (chk s != 0) = true from by simp [c2]]
        exact hbad (by unfold askSpec; rw [if_pos c1]; exact c2)
    · rw [if_neg c1]
      exact hbad (by unfold askSpec; rw [if_neg c1]; exact c1)
end Go.Proofs.Ytpjcahjpjeiicaa.P
