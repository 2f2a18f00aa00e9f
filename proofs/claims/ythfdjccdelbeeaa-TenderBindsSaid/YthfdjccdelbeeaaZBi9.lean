/-
  The texts that the theorem in YthfdjccdelbeeaaZRowBi rests on, merged (part 10); only what it reaches.
-/
import Derived.SizedLaws
import Derived.ChangeSlices
