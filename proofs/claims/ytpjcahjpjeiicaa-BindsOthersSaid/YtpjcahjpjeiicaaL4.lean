/- Plain lemmas over the printed functions, for law_greatest, law_others. -/
import Derived.Test.YtpjcahjpjeiicaaPx0
import Derived.Test.YtpjcahjpjeiicaaL0
namespace Go.Proofs.Ytpjcahjpjeiicaa.P
open Go.RowKit Go.Proofs.YtpjcahjpjeiicaaW.PrintWords Go.Proofs.YtpjcahjpjeiicaaW.PrintLast Sc
structure Gr (l : List S24) (name set : ByteArray) (C : List Int) (i f : Int) : Prop where
  lb : l.length ≤ 1005
  tb : TB 150 l
  sb : set.size ≤ 150
  ht : (tab l).2 = 0
  hs : chk set = 0
  hC : C = cands l name set l.length
  hf : findTop l C C = (i, f)
theorem Gr.size {l name set C i f} (g : Gr l name set C i f) {x : Int} (h : 0 ≤ x ∧ x < (l.length : Int)) : (rd_T24 l x).f1.size ≤ 150 := TB_rd g.tb h
end Go.Proofs.Ytpjcahjpjeiicaa.P
