import Derived.Test.YthkmchgglnhmaaaOpen
import Derived.Test.YthkmchgglnhmaaaTyL
/- Arguments of the structs of package laws, opened. Printed by gen_open.py (own). -/
namespace Go.Proofs.Ythkmchgglnhmaaa.Eq
open Go.RowKit Go.Proofs.YthkmchgglnhmaaaW.PrintWords Go.Proofs.YthkmchgglnhmaaaW.PrintLast
open Go.ChangeShapes Go.WideShapes Go.Deep
set_option linter.unusedVariables false
section
variable {H : Type} {enc : TypeId × Value → H} {w : World} {base : Nat} {spare : Nat → Bool} {held : Bool}
theorem open_i : Opens enc Try.prog w base spare held 3 (Kd.int .i64) := opens_int Try.underlying3
theorem open_Put : Opens enc Try.prog w base spare held 93 kPutL :=
  opens_struct (g := fun c => ⟨c.1, c.2⟩) (fun c => rfl) Try.underlying93 (by kernel_rfl) (by kernel_rfl) rfl
    (opensAt_cons open_i (opensAt_one open_i))
theorem open_Cell : Opens enc Try.prog w base spare held 77 kCellL :=
  opens_struct (g := fun c => ⟨c.1, c.2.1, c.2.2⟩) (fun c => rfl) Try.underlying77 (by kernel_rfl) (by kernel_rfl) rfl
    (opensAt_cons open_i (opensAt_cons open_i (opensAt_one open_i)))
theorem open_Task : Opens enc Try.prog w base spare held 70 kTaskL :=
  opens_struct (g := fun c => ⟨c.1, c.2.1, c.2.2.1, c.2.2.2.1, c.2.2.2.2.1, c.2.2.2.2.2.1, c.2.2.2.2.2.2.1, c.2.2.2.2.2.2.2.1, c.2.2.2.2.2.2.2.2.1, c.2.2.2.2.2.2.2.2.2.1, c.2.2.2.2.2.2.2.2.2.2.1, c.2.2.2.2.2.2.2.2.2.2.2.1, c.2.2.2.2.2.2.2.2.2.2.2.2⟩) (fun c => rfl) Try.underlying70 (by kernel_rfl) (by kernel_rfl) rfl
    (opensAt_cons open_i (opensAt_cons open_i (opensAt_cons open_i (opensAt_cons (opens_slice (by kernel_rfl) (by kernel_rfl) open_i) (opensAt_cons open_i (opensAt_cons open_i (opensAt_cons open_i (opensAt_cons open_i (opensAt_cons (opens_slice (by kernel_rfl) (by kernel_rfl) open_i) (opensAt_cons (opens_slice (by kernel_rfl) (by kernel_rfl) open_Put) (opensAt_cons (opens_slice (by kernel_rfl) (by kernel_rfl) open_Put) (opensAt_cons open_i (opensAt_one open_i)))))))))))))
theorem open_Entry : Opens enc Try.prog w base spare held 73 kEntryL :=
  opens_struct (g := fun c => ⟨c.1, c.2.1, c.2.2.1, c.2.2.2.1, c.2.2.2.2.1, c.2.2.2.2.2⟩) (fun c => rfl) Try.underlying73 (by kernel_rfl) (by kernel_rfl) rfl
    (opensAt_cons open_i (opensAt_cons open_i (opensAt_cons open_i (opensAt_cons (opens_slice (by kernel_rfl) (by kernel_rfl) open_Put) (opensAt_cons (opens_slice (by kernel_rfl) (by kernel_rfl) open_Put) (opensAt_one open_i))))))
theorem open_Sys : Opens enc Try.prog w base spare held 26 kSysL :=
  opens_struct (g := fun c => ⟨c.1, c.2.1, c.2.2.1, c.2.2.2⟩) (fun c => rfl) Try.underlying26 (by kernel_rfl) (by kernel_rfl) rfl
    (opensAt_cons (opens_slice (by kernel_rfl) (by kernel_rfl) open_Cell) (opensAt_cons (opens_slice (by kernel_rfl) (by kernel_rfl) open_Task) (opensAt_cons open_i (opensAt_one (opens_slice (by kernel_rfl) (by kernel_rfl) open_Entry)))))
end
end Go.Proofs.Ythkmchgglnhmaaa.Eq
