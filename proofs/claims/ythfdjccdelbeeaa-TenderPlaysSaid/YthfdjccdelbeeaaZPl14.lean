/-
  The texts that the theorem in YthfdjccdelbeeaaZRowPl rests on, merged (part 15); only what it reaches.
-/
import Derived.SizedLaws
import Derived.ChangeSlices
