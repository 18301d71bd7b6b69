/- Names joined, as it is printed: its plain meaning. -/
import Derived.Test.YtcmajhdgaeploaaDoorZPthTPathTA
import Derived.Test.YtcmajhdgaeploaaDoorYPathNames
import Derived.Test.YtcmajhdgaeploaaDoorQPthTx2
namespace Go.Proofs.YtcmajhdgaeploaaDoor.QPthT
open Go.RowKit Go.Proofs.YtcmajhdgaeploaaDoorW.PrintWords Go.Proofs.YtcmajhdgaeploaaDoorW.PrintLast
open Go Go.Proofs.YtcmajhdgaeploaaDoor.PathOrd
theorem join_told (L : List ByteArray) (h : total L ≤ 140737488355328) : strings_Join.f L ⟨#[47]⟩ = some (jnT L) := by
  have h1 := jn_len L
  have h2 := total_len L
  unfold strings_Join.f jnT
  rw [show (⟨#[47]⟩ : ByteArray).data.toList = [47] from rfl, jn_join, if_pos ⟨by omega, by omega⟩]
end Go.Proofs.YtcmajhdgaeploaaDoor.QPthT
