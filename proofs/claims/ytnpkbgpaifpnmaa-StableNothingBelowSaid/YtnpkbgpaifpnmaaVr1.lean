/- Plain structs out of their cells. -/
import Derived.Test.YtnpkbgpaifpnmaaVl2
import Derived.Test.YtnpkbgpaifpnmaaVs1
set_option linter.unusedVariables false
set_option linter.unusedSimpArgs false
namespace Go.Proofs.Ytnpkbgpaifpnmaa.Vc
open Go

def Epoch.ofRaw (q : Raw) (o : Nat) : Epoch := ⟨q.x o, fun j => q.x ((o + 1) + j), fun j => q.x ((o + 9) + j), fun j => q.x ((o + 17) + j)⟩
def kEpoch : List K1 := [.i .i64] ++ (kVec ++ (kVec ++ (kVec)))
theorem kEpoch_len : kEpoch.length = 25 := rfl
theorem gEpoch_flat (q : Raw) (o : Nat) : GV.flat (gEpoch (Epoch.ofRaw q o)) = q.cells kEpoch o := by
  simp only [gEpoch, Epoch.ofRaw, kEpoch, GV.flat, cells_append, List.length_append, List.length_cons, List.length_nil, kVec_len, kVec2_len, gVec_flat, gVec2_flat]
  simp [Raw.cells, Raw.at, Nat.add_assoc]
def Stamp.ofRaw (q : Raw) (o : Nat) : Stamp := ⟨q.x o, q.x (o + 1)⟩
def kStamp : List K1 := [.i .i64] ++ ([.i .i64])
theorem kStamp_len : kStamp.length = 2 := rfl
theorem gStamp_flat (q : Raw) (o : Nat) : GV.flat (gStamp (Stamp.ofRaw q o)) = q.cells kStamp o := by
  simp only [gStamp, Stamp.ofRaw, kStamp, GV.flat, cells_append, List.length_append, List.length_cons, List.length_nil, kVec_len, kVec2_len, kEpoch_len, gVec_flat, gVec2_flat, gEpoch_flat]
  simp [Raw.cells, Raw.at, Nat.add_assoc]
def Op.ofRaw (q : Raw) (o : Nat) : Op := ⟨Stamp.ofRaw q o, q.x (o + 2), q.x (o + 3), q.x (o + 4), q.y (o + 5), q.y (o + 6), q.y (o + 7)⟩
def kOp : List K1 := kStamp ++ ([.i .i64] ++ ([.i .i64] ++ ([.i .i64] ++ ([.s] ++ ([.s] ++ ([.s]))))))
theorem kOp_len : kOp.length = 8 := rfl
theorem gOp_flat (q : Raw) (o : Nat) : GV.flat (gOp (Op.ofRaw q o)) = q.cells kOp o := by
  simp only [gOp, Op.ofRaw, kOp, GV.flat, cells_append, List.length_append, List.length_cons, List.length_nil, kVec_len, kVec2_len, kEpoch_len, kStamp_len, gVec_flat, gVec2_flat, gEpoch_flat, gStamp_flat]
  simp [Raw.cells, Raw.at, Nat.add_assoc]
def View.ofRaw (q : Raw) (o : Nat) : View := ⟨Epoch.ofRaw q o, q.x (o + 25), fun j => q.x ((o + 26) + j), fun j => q.x ((o + 34) + j), fun j => q.x ((o + 42) + j), fun j => q.x ((o + 50) + j), q.x (o + 58), fun i j => q.x ((o + 59) + i * 8 + j)⟩
def kView : List K1 := kEpoch ++ ([.i .i64] ++ (kVec ++ (kVec ++ (kVec ++ (kVec ++ ([.i .i64] ++ (kVec2)))))))
theorem kView_len : kView.length = 123 := rfl
theorem gView_flat (q : Raw) (o : Nat) : GV.flat (gView (View.ofRaw q o)) = q.cells kView o := by
  simp only [gView, View.ofRaw, kView, GV.flat, cells_append, List.length_append, List.length_cons, List.length_nil, kVec_len, kVec2_len, kEpoch_len, kStamp_len, kOp_len, gVec_flat, gVec2_flat, gEpoch_flat, gStamp_flat, gOp_flat]
  simp [Raw.cells, Raw.at, Nat.add_assoc]
def Event.ofRaw (q : Raw) (o : Nat) : Event := ⟨q.x o, q.x (o + 1), q.x (o + 2), q.x (o + 3)⟩
def kEvent : List K1 := [.i .i64] ++ ([.i .i64] ++ ([.i .i64] ++ ([.i .i64])))
theorem kEvent_len : kEvent.length = 4 := rfl
theorem gEvent_flat (q : Raw) (o : Nat) : GV.flat (gEvent (Event.ofRaw q o)) = q.cells kEvent o := by
  simp only [gEvent, Event.ofRaw, kEvent, GV.flat, cells_append, List.length_append, List.length_cons, List.length_nil, kVec_len, kVec2_len, kEpoch_len, kStamp_len, kOp_len, kView_len, gVec_flat, gVec2_flat, gEpoch_flat, gStamp_flat, gOp_flat, gView_flat]
  simp [Raw.cells, Raw.at, Nat.add_assoc]

end Go.Proofs.Ytnpkbgpaifpnmaa.Vc
