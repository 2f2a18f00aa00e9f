/-
  The texts that the theorem in YthfdjccdelbeeaaZRowNo rests on, merged (part 9); only what it reaches.
-/
import Derived.SizedLaws
import Derived.ChangeSlices
