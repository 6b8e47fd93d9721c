/- A token. No program in sight. -/
import Derived.Test.YtcdbldakjepjiaaDoorPlain
set_option linter.unusedVariables false
set_option linter.unusedSimpArgs false
namespace Go.Proofs.YtcdbldakjepjiaaDoor

structure Tok where
  kind : Int
  text : ByteArray
  n : Int
  pos : Int

end Go.Proofs.YtcdbldakjepjiaaDoor
