/-
  The texts that the theorem in YthfdjccdelbeeaaZRowFu rests on, merged (part 10); only what it reaches.
-/
import Derived.SizedLaws
import Derived.ChangeSlices
