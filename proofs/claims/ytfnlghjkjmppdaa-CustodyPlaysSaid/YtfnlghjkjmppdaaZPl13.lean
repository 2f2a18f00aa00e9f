/-
  The texts that the theorem in YtfnlghjkjmppdaaZRowPl rests on, merged (part 14); only what it reaches.
-/
import Derived.SizedLaws
import Derived.ChangeSlices
