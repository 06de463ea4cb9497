/- Part of the proof: what the claim leans on. -/
import Derived.Test.YthnediamopehfaaZAA
import Derived.Test.YthnediamopehfaaZAB
import Derived.Test.YthnediamopehfaaZAC
import Derived.Test.YthnediamopehfaaZAD
import Derived.Test.YthnediamopehfaaZAE
import Derived.Test.YthnediamopehfaaZAF
import Derived.Test.YthnediamopehfaaZAG
import Derived.Test.YthnediamopehfaaZAH
import Derived.Test.YthnediamopehfaaZAI
import Derived.Test.YthnediamopehfaaZAJ
import Derived.Test.YthnediamopehfaaZAK
import Derived.Test.YthnediamopehfaaZAL
import Derived.Test.YthnediamopehfaaZAM
import Derived.Test.YthnediamopehfaaZAN
import Derived.Test.YthnediamopehfaaZAO
import Derived.Test.YthnediamopehfaaZAP
import Derived.Test.YthnediamopehfaaZAQ
import Derived.Test.YthnediamopehfaaZAR
import Derived.Test.YthnediamopehfaaZAS
import Derived.Test.YthnediamopehfaaZAT
import Derived.Test.YthnediamopehfaaZAU
import Derived.Test.YthnediamopehfaaZAV
import Derived.Test.YthnediamopehfaaZAW
import Derived.Test.YthnediamopehfaaZAX
import Derived.Test.YthnediamopehfaaZAY
import Derived.Test.YthnediamopehfaaZAZ
import Derived.Test.YthnediamopehfaaZBA
import Derived.Test.YthnediamopehfaaZBB
import Derived.Test.YthnediamopehfaaZBC
import Derived.Test.YthnediamopehfaaZBD
import Derived.Test.YthnediamopehfaaZBF
import Derived.Lib.SmallJoins
import Derived.Laws.CopyRow
import Derived.Laws.CopyOwn
set_option linter.unusedSimpArgs false
set_option linter.unusedVariables false
namespace Go.Proofs.Ythnediamopehfaa
open Go.RowKit
def IsPp (xs : List (Int × Int)) (v : Value) (W : World) : Prop := ∃ a c, v = .slice a xs.length c ∧ Pp W a xs.length c xs
theorem IsPp.below {xs : List (Int × Int)} {v : Value} {W W' : World} (h : IsPp xs v W) (hb : Below W.heap.size W W') : IsPp xs v W' := by
  obtain ⟨a, c, e, h⟩ := h; exact ⟨a, c, e, h.below hb (Nat.le_refl _)⟩
end Go.Proofs.Ythnediamopehfaa
