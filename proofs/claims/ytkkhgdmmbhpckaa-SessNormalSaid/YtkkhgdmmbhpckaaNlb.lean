/-
 Where the models of norm stand (seat r3: Sess laws; in seat r3.Z the text of this name is the lifted one).
-/
import Derived.Test.YtkkhgdmmbhpckaaScb
