/- Lemmas. -/
import Derived.Test.YtbkdpmkjcoaapaaX22
namespace Go.Lg
section
variable {P : Program} {A : Ann} {H : Heap} {f : FuncId} {Q : Ex → Env → Heap → Prop}
end
end Go.Lg
