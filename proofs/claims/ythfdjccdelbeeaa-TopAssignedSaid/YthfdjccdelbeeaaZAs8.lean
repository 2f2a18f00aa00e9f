/-
  The texts that the theorem in YthfdjccdelbeeaaZRowAs rests on, merged (part 9); only what it reaches.
-/
import Derived.SizedLaws
import Derived.ChangeSlices
