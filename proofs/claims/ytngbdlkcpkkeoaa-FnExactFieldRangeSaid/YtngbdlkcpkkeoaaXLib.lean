/- The library's laws that the hand-written contracts use. -/
import Derived.Test.YtngbdlkcpkkeoaaXWords
import Derived.Lib.SliceRun
import Derived.Laws.IdiomCopy
import Derived.Laws.MakeOwn
import Derived.Laws.CopyOwn
import Derived.Outline
import Derived.WalkSmall
import Derived.Deep.RegionLaw
