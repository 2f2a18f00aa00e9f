/-
  The texts that the theorem in YtacjdoekgmmfoaaZRowLg rests on, merged (part 12); only what it reaches.
-/
import Derived.SizedLaws
import Derived.ChangeSlices
