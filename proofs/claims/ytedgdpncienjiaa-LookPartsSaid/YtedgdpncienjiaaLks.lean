/-
  The structures, by another name.
-/
import Derived.Test.YtedgdpncienjiaaRss
