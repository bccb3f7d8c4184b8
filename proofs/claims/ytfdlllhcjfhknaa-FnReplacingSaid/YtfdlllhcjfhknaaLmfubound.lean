/- A deterministic reading of Go code over plain data: what functions of the program compute. No conditions. -/
import Derived.Test.YtfdlllhcjfhknaaLmbase
import Derived.Test.YtfdlllhcjfhknaaLmimpl
import Derived.Test.YtfdlllhcjfhknaaLmnodes
import Derived.Test.YtfdlllhcjfhknaaLmnodep
import Derived.Test.YtfdlllhcjfhknaaLmnodefn
import Derived.Test.YtfdlllhcjfhknaaLmisexpr
import Derived.Test.YtfdlllhcjfhknaaLmisort
import Derived.Test.YtfdlllhcjfhknaaLmpsort
import Derived.Test.YtfdlllhcjfhknaaLmcompact
import Derived.Test.YtfdlllhcjfhknaaLmfusedi
import Derived.Test.YtfdlllhcjfhknaaEngT
namespace Go.Proofs.Ytfdlllhcjfhknaa.Eng
open Go Go.Proofs
set_option maxRecDepth 100000
set_option maxHeartbeats 2000000
set_option linter.unusedSimpArgs false
set_option linter.unusedVariables false
attribute [local simp] finK fin1 hpOf xi renQ isRoot runCode runOps Eng.step wantedV astep val ofO made loadV storeV find V.cells bin binT binA numT numFs eqCells un1 setAt fieldAddrV fieldV indexAddrV indexV bounds sliceV convV lenV foldV max2V min2V callO bor rdsO wrsO seen_none okD_none loops keepIds resV resultsV St.ev TK.agg refs refsL refsO V.one V.isC Value.oneCell' ren renL renO noTag noTagL noTagR noTagO nodup mapO passV frs psi refsR newD loopNext opsAt idx flatAt rootOf backR newsV appendV copyV clearV strV bytesOf nilCmp buildV fillF chunk
attribute [local simp] cT cF cX cWR cOW cK X ints_length ints_get ints_getElem ints_drop ints_take ints_append ints_nil ints_set
attribute [local simp] ints_replicate
attribute [local simp] putV_some putV_none putH_app applyD_nil applyD_cons seen_app gc_ρ gc_H gc_tick st0_ρ st0_H st0_tick retV callRo callV_if borL_nil borL_cons ints_snoc take_self callWr cutH_app findQ afterV exportV_0 exportV_n okD_nil okD_cons sub_seq0 sub_seq1 sub_cond0 sub_cond1 sub_block sub_loop sub_nil young_far young_none hidW_nil mayW_nil pairs okI ok_0 ok_1 ok_2
attribute [local simp] T3 T4 T5 T9 T22 T24 T29 T36 T73 T75 T86 T89 T103 T104 T106 T108 T109 T114 T134 T136 T157 T161 T168
theorem ar_field {q : Int × Int} (h : q.1 = 1) (h0 : 0 ≤ arI q) : arI q = 0 := by
  unfold arI at *
  rw [h] at h0 ⊢
  simp at h0 ⊢
  omega
theorem us_bound (l : List (Int × Int)) : ∀ i, i ≤ l.length → 0 ≤ runO l i → 2 * ((usL (l.take i)).length : Int) - i ≤ runO l i
  | 0, _, _ => by simp [usL, runO]
  | i + 1, h, h0 => by
    obtain ⟨r1, r2, r3, r4⟩ := runO_back h0
    have ih := us_bound l i (by omega) r1
    rw [getD_nd (by omega)] at r2 r3 r4
    rw [usL_take l i (by omega)]
    have hc := ar_cases l[i]
    split
    · rename_i h1
      have := ar_field h1 r2
      simp
      omega
    · omega
theorem us_12 {l : List (Int × Int)} (hg : goodE l = true) : (usL l).length ≤ 12 := by
  obtain ⟨h15, hr⟩ := good_run hg
  have := us_bound l l.length (Nat.le_refl _) (by omega)
  rw [List.take_length] at this
  omega

end Go.Proofs.Ytfdlllhcjfhknaa.Eng
