import Derived.Test.YtoghbjbfldlfpaaGreatVW2
namespace Go.Proofs.YtoghbjbfldlfpaaGreat
open Go.RowKit
set_option linter.unusedVariables false
set_option linter.unusedSimpArgs false
set_option maxRecDepth 10000

end Go.Proofs.YtoghbjbfldlfpaaGreat
