/- The table of types of this program. -/
import Derived.KernelRfl
import Derived.Test.YtjoamcalgfelpaaGreatDoorAVc
import Derived.Test.YtjoamcalgfelpaaGreatDoorProg
namespace Go.Proofs.YtjoamcalgfelpaaGreatDoor.A
open Go.RowKit
def T : TypeId → Option TI
  | 2 => some ⟨.int .i64, 1, 8, [.int .i64 0], [.v (.int .i64 0)], false⟩
  | 3 => some ⟨.int .i64, 1, 8, [.int .i64 0], [.v (.int .i64 0)], false⟩
  | 4 => some ⟨.bool, 1, 1, [.bool false], [.v (.bool false)], false⟩
  | 5 => some ⟨.int .u8, 1, 1, [.int .u8 0], [.v (.int .u8 0)], false⟩
  | 9 => some ⟨.str, 1, 16, [.string ⟨#[]⟩], [.v (.string ⟨#[]⟩)], false⟩
  | 21 => some ⟨.int .i32, 1, 4, [.int .i32 0], [.v (.int .i32 0)], false⟩
  | 23 => some ⟨.st [(0, 3), (1, 3)], 2, 16, [.int .i64 0, .int .i64 0], [.v (.int .i64 0), .v (.int .i64 0)], true⟩
  | 24 => some ⟨.sl 26, 1, 24, [.slice none 0 0], [.sl 6 []], false⟩
  | 26 => some ⟨.st [(0, 3), (1, 4), (2, 23), (4, 9), (5, 24)], 6, 72, [.int .i64 0, .bool false, .int .i64 0, .int .i64 0, .string ⟨#[]⟩, .slice none 0 0], [.v (.int .i64 0), .v (.bool false), .v (.int .i64 0), .v (.int .i64 0), .v (.string ⟨#[]⟩), .sl 6 []], false⟩
  | 31 => some ⟨.sl 33, 1, 24, [.slice none 0 0], [.sl 8 []], false⟩
  | 33 => some ⟨.st [(0, 3), (1, 4), (2, 23), (4, 9), (5, 4), (6, 4), (7, 31)], 8, 80, [.int .i64 0, .bool false, .int .i64 0, .int .i64 0, .string ⟨#[]⟩, .bool false, .bool false, .slice none 0 0], [.v (.int .i64 0), .v (.bool false), .v (.int .i64 0), .v (.int .i64 0), .v (.string ⟨#[]⟩), .v (.bool false), .v (.bool false), .sl 8 []], false⟩
  | 46 => some ⟨.sl 52, 1, 24, [.slice none 0 0], [.sl 3 []], false⟩
  | 52 => some ⟨.st [(0, 3), (1, 9), (2, 3)], 3, 32, [.int .i64 0, .string ⟨#[]⟩, .int .i64 0], [.v (.int .i64 0), .v (.string ⟨#[]⟩), .v (.int .i64 0)], false⟩
  | 54 => some ⟨.sl 75, 1, 24, [.slice none 0 0], [.sl 7 []], false⟩
  | 75 => some ⟨.st [(0, 9), (1, 26)], 7, 88, [.string ⟨#[]⟩, .int .i64 0, .bool false, .int .i64 0, .int .i64 0, .string ⟨#[]⟩, .slice none 0 0], [.v (.string ⟨#[]⟩), .v (.int .i64 0), .v (.bool false), .v (.int .i64 0), .v (.int .i64 0), .v (.string ⟨#[]⟩), .sl 6 []], false⟩
  | 64 => some ⟨.sl 9, 1, 24, [.slice none 0 0], [.sl 1 []], false⟩
  | 68 => some ⟨.ptr, 1, 8, [.pointer none], [.v (.pointer none)], false⟩
  | 70 => some ⟨.st [(0, 46), (1, 3), (2, 3), (3, 3), (4, 3)], 5, 56, [.slice none 0 0, .int .i64 0, .int .i64 0, .int .i64 0, .int .i64 0], [.sl 3 [], .v (.int .i64 0), .v (.int .i64 0), .v (.int .i64 0), .v (.int .i64 0)], false⟩
  | 92 => some ⟨.sl 5, 1, 24, [.slice none 0 0], [.sl 1 []], false⟩
  | _ => none
@[go_sem] theorem T_2 : T 2 = some ⟨.int .i64, 1, 8, [.int .i64 0], [.v (.int .i64 0)], false⟩ := (rfl)
@[go_sem] theorem K_2 : kindOf T 2 = .int .i64 := (rfl)
@[go_sem] theorem T_3 : T 3 = some ⟨.int .i64, 1, 8, [.int .i64 0], [.v (.int .i64 0)], false⟩ := (rfl)
@[go_sem] theorem K_3 : kindOf T 3 = .int .i64 := (rfl)
@[go_sem] theorem T_4 : T 4 = some ⟨.bool, 1, 1, [.bool false], [.v (.bool false)], false⟩ := (rfl)
@[go_sem] theorem K_4 : kindOf T 4 = .bool := (rfl)
@[go_sem] theorem T_5 : T 5 = some ⟨.int .u8, 1, 1, [.int .u8 0], [.v (.int .u8 0)], false⟩ := (rfl)
@[go_sem] theorem K_5 : kindOf T 5 = .int .u8 := (rfl)
@[go_sem] theorem T_9 : T 9 = some ⟨.str, 1, 16, [.string ⟨#[]⟩], [.v (.string ⟨#[]⟩)], false⟩ := (rfl)
@[go_sem] theorem K_9 : kindOf T 9 = .str := (rfl)
@[go_sem] theorem T_21 : T 21 = some ⟨.int .i32, 1, 4, [.int .i32 0], [.v (.int .i32 0)], false⟩ := (rfl)
@[go_sem] theorem K_21 : kindOf T 21 = .int .i32 := (rfl)
@[go_sem] theorem T_23 : T 23 = some ⟨.st [(0, 3), (1, 3)], 2, 16, [.int .i64 0, .int .i64 0], [.v (.int .i64 0), .v (.int .i64 0)], true⟩ := (rfl)
@[go_sem] theorem K_23 : kindOf T 23 = .st [(0, 3), (1, 3)] := (rfl)
@[go_sem] theorem T_24 : T 24 = some ⟨.sl 26, 1, 24, [.slice none 0 0], [.sl 6 []], false⟩ := (rfl)
@[go_sem] theorem K_24 : kindOf T 24 = .sl 26 := (rfl)
@[go_sem] theorem T_26 : T 26 = some ⟨.st [(0, 3), (1, 4), (2, 23), (4, 9), (5, 24)], 6, 72, [.int .i64 0, .bool false, .int .i64 0, .int .i64 0, .string ⟨#[]⟩, .slice none 0 0], [.v (.int .i64 0), .v (.bool false), .v (.int .i64 0), .v (.int .i64 0), .v (.string ⟨#[]⟩), .sl 6 []], false⟩ := (rfl)
@[go_sem] theorem K_26 : kindOf T 26 = .st [(0, 3), (1, 4), (2, 23), (4, 9), (5, 24)] := (rfl)
@[go_sem] theorem T_31 : T 31 = some ⟨.sl 33, 1, 24, [.slice none 0 0], [.sl 8 []], false⟩ := (rfl)
@[go_sem] theorem K_31 : kindOf T 31 = .sl 33 := (rfl)
@[go_sem] theorem T_33 : T 33 = some ⟨.st [(0, 3), (1, 4), (2, 23), (4, 9), (5, 4), (6, 4), (7, 31)], 8, 80, [.int .i64 0, .bool false, .int .i64 0, .int .i64 0, .string ⟨#[]⟩, .bool false, .bool false, .slice none 0 0], [.v (.int .i64 0), .v (.bool false), .v (.int .i64 0), .v (.int .i64 0), .v (.string ⟨#[]⟩), .v (.bool false), .v (.bool false), .sl 8 []], false⟩ := (rfl)
@[go_sem] theorem K_33 : kindOf T 33 = .st [(0, 3), (1, 4), (2, 23), (4, 9), (5, 4), (6, 4), (7, 31)] := (rfl)
@[go_sem] theorem T_46 : T 46 = some ⟨.sl 52, 1, 24, [.slice none 0 0], [.sl 3 []], false⟩ := (rfl)
@[go_sem] theorem K_46 : kindOf T 46 = .sl 52 := (rfl)
@[go_sem] theorem T_52 : T 52 = some ⟨.st [(0, 3), (1, 9), (2, 3)], 3, 32, [.int .i64 0, .string ⟨#[]⟩, .int .i64 0], [.v (.int .i64 0), .v (.string ⟨#[]⟩), .v (.int .i64 0)], false⟩ := (rfl)
@[go_sem] theorem K_52 : kindOf T 52 = .st [(0, 3), (1, 9), (2, 3)] := (rfl)
@[go_sem] theorem T_54 : T 54 = some ⟨.sl 75, 1, 24, [.slice none 0 0], [.sl 7 []], false⟩ := (rfl)
@[go_sem] theorem K_54 : kindOf T 54 = .sl 75 := (rfl)
@[go_sem] theorem T_75 : T 75 = some ⟨.st [(0, 9), (1, 26)], 7, 88, [.string ⟨#[]⟩, .int .i64 0, .bool false, .int .i64 0, .int .i64 0, .string ⟨#[]⟩, .slice none 0 0], [.v (.string ⟨#[]⟩), .v (.int .i64 0), .v (.bool false), .v (.int .i64 0), .v (.int .i64 0), .v (.string ⟨#[]⟩), .sl 6 []], false⟩ := (rfl)
@[go_sem] theorem K_75 : kindOf T 75 = .st [(0, 9), (1, 26)] := (rfl)
@[go_sem] theorem T_64 : T 64 = some ⟨.sl 9, 1, 24, [.slice none 0 0], [.sl 1 []], false⟩ := (rfl)
@[go_sem] theorem K_64 : kindOf T 64 = .sl 9 := (rfl)
@[go_sem] theorem T_68 : T 68 = some ⟨.ptr, 1, 8, [.pointer none], [.v (.pointer none)], false⟩ := (rfl)
@[go_sem] theorem K_68 : kindOf T 68 = .ptr := (rfl)
@[go_sem] theorem T_70 : T 70 = some ⟨.st [(0, 46), (1, 3), (2, 3), (3, 3), (4, 3)], 5, 56, [.slice none 0 0, .int .i64 0, .int .i64 0, .int .i64 0, .int .i64 0], [.sl 3 [], .v (.int .i64 0), .v (.int .i64 0), .v (.int .i64 0), .v (.int .i64 0)], false⟩ := (rfl)
@[go_sem] theorem K_70 : kindOf T 70 = .st [(0, 46), (1, 3), (2, 3), (3, 3), (4, 3)] := (rfl)
@[go_sem] theorem T_92 : T 92 = some ⟨.sl 5, 1, 24, [.slice none 0 0], [.sl 1 []], false⟩ := (rfl)
@[go_sem] theorem K_92 : kindOf T 92 = .sl 5 := (rfl)
set_option maxRecDepth 100000 in
theorem tabOk : TabOk Go.Proofs.Tryz.prog T := by
  intro t i h
  unfold T at h
  split at h
  · injection h with h; subst h; exact ⟨by kernel_rfl, by kernel_rfl, fun e => absurd e (by simp), rfl, ⟨rfl, trivial⟩⟩
  · injection h with h; subst h; exact ⟨by kernel_rfl, by kernel_rfl, fun e => absurd e (by simp), rfl, ⟨rfl, trivial⟩⟩
  · injection h with h; subst h; exact ⟨by kernel_rfl, by kernel_rfl, fun e => absurd e (by simp), rfl, ⟨rfl, trivial⟩⟩
  · injection h with h; subst h; exact ⟨by kernel_rfl, by kernel_rfl, fun e => absurd e (by simp), rfl, ⟨rfl, trivial⟩⟩
  · injection h with h; subst h; exact ⟨by kernel_rfl, by kernel_rfl, fun e => absurd e (by simp), rfl, ⟨rfl, trivial⟩⟩
  · injection h with h; subst h; exact ⟨by kernel_rfl, by kernel_rfl, fun e => absurd e (by simp), rfl, ⟨rfl, trivial⟩⟩
  · injection h with h; subst h; exact ⟨by kernel_rfl, by kernel_rfl, fun _ => by kernel_rfl, rfl, ⟨rfl, ⟨rfl, trivial⟩⟩⟩
  · injection h with h; subst h; exact ⟨by kernel_rfl, by kernel_rfl, fun e => absurd e (by simp), rfl, ⟨rfl, trivial⟩⟩
  · injection h with h; subst h; exact ⟨by kernel_rfl, by kernel_rfl, fun e => absurd e (by simp), rfl, ⟨rfl, ⟨rfl, ⟨rfl, ⟨rfl, ⟨rfl, ⟨rfl, trivial⟩⟩⟩⟩⟩⟩⟩
  · injection h with h; subst h; exact ⟨by kernel_rfl, by kernel_rfl, fun e => absurd e (by simp), rfl, ⟨rfl, trivial⟩⟩
  · injection h with h; subst h; exact ⟨by kernel_rfl, by kernel_rfl, fun e => absurd e (by simp), rfl, ⟨rfl, ⟨rfl, ⟨rfl, ⟨rfl, ⟨rfl, ⟨rfl, ⟨rfl, ⟨rfl, trivial⟩⟩⟩⟩⟩⟩⟩⟩⟩
  · injection h with h; subst h; exact ⟨by kernel_rfl, by kernel_rfl, fun e => absurd e (by simp), rfl, ⟨rfl, trivial⟩⟩
  · injection h with h; subst h; exact ⟨by kernel_rfl, by kernel_rfl, fun e => absurd e (by simp), rfl, ⟨rfl, ⟨rfl, ⟨rfl, trivial⟩⟩⟩⟩
  · injection h with h; subst h; exact ⟨by kernel_rfl, by kernel_rfl, fun e => absurd e (by simp), rfl, ⟨rfl, trivial⟩⟩
  · injection h with h; subst h; exact ⟨by kernel_rfl, by kernel_rfl, fun e => absurd e (by simp), rfl, ⟨rfl, ⟨rfl, ⟨rfl, ⟨rfl, ⟨rfl, ⟨rfl, ⟨rfl, trivial⟩⟩⟩⟩⟩⟩⟩⟩
  · injection h with h; subst h; exact ⟨by kernel_rfl, by kernel_rfl, fun e => absurd e (by simp), rfl, ⟨rfl, trivial⟩⟩
  · injection h with h; subst h; exact ⟨by kernel_rfl, by kernel_rfl, fun e => absurd e (by simp), rfl, ⟨rfl, trivial⟩⟩
  · injection h with h; subst h; exact ⟨by kernel_rfl, by kernel_rfl, fun e => absurd e (by simp), rfl, ⟨rfl, ⟨rfl, ⟨rfl, ⟨rfl, ⟨rfl, trivial⟩⟩⟩⟩⟩⟩
  · injection h with h; subst h; exact ⟨by kernel_rfl, by kernel_rfl, fun e => absurd e (by simp), rfl, ⟨rfl, trivial⟩⟩
  · cases h
end Go.Proofs.YtjoamcalgfelpaaGreatDoor.A
