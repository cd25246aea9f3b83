/-
 What has been drawn is never taken back.
-/
import Derived.Test.YtjkdbakgnnhdnaaGreatAbU
namespace Go.Proofs.YtjkdbakgnnhdnaaGreat.Ab
end Go.Proofs.YtjkdbakgnnhdnaaGreat.Ab
