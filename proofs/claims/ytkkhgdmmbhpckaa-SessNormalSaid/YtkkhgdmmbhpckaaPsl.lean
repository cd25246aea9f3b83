/-
 Where the models of Parse and File stand.
-/
import Derived.Test.YtkkhgdmmbhpckaaScb
