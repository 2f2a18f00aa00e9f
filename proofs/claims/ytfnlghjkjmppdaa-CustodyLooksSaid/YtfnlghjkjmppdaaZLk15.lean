/-
  The texts that the theorem in YtfnlghjkjmppdaaZRowLk rests on, merged (part 16); only what it reaches.
-/
import Derived.SizedLaws
import Derived.ChangeSlices
