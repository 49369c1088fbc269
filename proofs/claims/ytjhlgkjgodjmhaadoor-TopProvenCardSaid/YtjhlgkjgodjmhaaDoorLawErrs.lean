/- What is lent on: the errors, the memory, the quiet regions. No condition. -/
import Derived.Test.YtjhlgkjgodjmhaaDoorErrs
import Derived.Test.YtjhlgkjgodjmhaaDoorMem
import Derived.BigQuiet
import Derived.Deep.QuietTactic
namespace Go.Proofs.YtjhlgkjgodjmhaaDoor
end Go.Proofs.YtjhlgkjgodjmhaaDoor
