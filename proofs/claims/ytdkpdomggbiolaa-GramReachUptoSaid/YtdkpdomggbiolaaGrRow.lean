/- GramReach: the program's Reach and Left answer what the document's answer, of any rules and pattern whose bulk is at most 1048576. -/
import Derived.Test.YtdkpdomggbiolaaLt3
import Derived.Test.YtdkpdomggbiolaaDl1
namespace Go.Proofs.Ytdkpdomggbiolaa
set_option linter.all false

theorem gram_holds : Rows.GramReachUptoSaid := gram_of left_any refLeft_any
#print axioms gram_holds
end Go.Proofs.Ytdkpdomggbiolaa
