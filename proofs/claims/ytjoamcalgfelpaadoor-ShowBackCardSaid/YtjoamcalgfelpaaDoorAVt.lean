/- The table of types of this program. -/
import Derived.KernelRfl
import Derived.Test.YtjoamcalgfelpaaDoorAVc
import Derived.Test.YtjoamcalgfelpaaDoorProg
namespace Go.Proofs.YtjoamcalgfelpaaDoor.A
open Go.RowKit
def T : TypeId → Option TI
  | 2 => some ⟨.int .i64, 1, 8, [.int .i64 0], [.v (.int .i64 0)], false⟩
  | 3 => some ⟨.int .i64, 1, 8, [.int .i64 0], [.v (.int .i64 0)], false⟩
  | 4 => some ⟨.bool, 1, 1, [.bool false], [.v (.bool false)], false⟩
  | 5 => some ⟨.int .u8, 1, 1, [.int .u8 0], [.v (.int .u8 0)], false⟩
  | 9 => some ⟨.str, 1, 16, [.string ⟨#[]⟩], [.v (.string ⟨#[]⟩)], false⟩
  | 21 => some ⟨.int .i32, 1, 4, [.int .i32 0], [.v (.int .i32 0)], false⟩
  | 23 => some ⟨.st [(0, 3), (1, 3)], 2, 16, [.int .i64 0, .int .i64 0], [.v (.int .i64 0), .v (.int .i64 0)], true⟩
  | 24 => some ⟨.sl 26, 1, 24, [.slice none 0 0], [.sl 8 []], false⟩
  | 26 => some ⟨.st [(0, 3), (1, 4), (2, 23), (4, 9), (5, 4), (6, 4), (7, 24)], 8, 80, [.int .i64 0, .bool false, .int .i64 0, .int .i64 0, .string ⟨#[]⟩, .bool false, .bool false, .slice none 0 0], [.v (.int .i64 0), .v (.bool false), .v (.int .i64 0), .v (.int .i64 0), .v (.string ⟨#[]⟩), .v (.bool false), .v (.bool false), .sl 8 []], false⟩
  | 27 => some ⟨.sl 29, 1, 24, [.slice none 0 0], [.sl 6 []], false⟩
  | 29 => some ⟨.st [(0, 3), (1, 4), (2, 23), (4, 9), (5, 27)], 6, 72, [.int .i64 0, .bool false, .int .i64 0, .int .i64 0, .string ⟨#[]⟩, .slice none 0 0], [.v (.int .i64 0), .v (.bool false), .v (.int .i64 0), .v (.int .i64 0), .v (.string ⟨#[]⟩), .sl 6 []], false⟩
  | 51 => some ⟨.sl 57, 1, 24, [.slice none 0 0], [.sl 3 []], false⟩
  | 57 => some ⟨.st [(0, 3), (1, 9), (2, 3)], 3, 32, [.int .i64 0, .string ⟨#[]⟩, .int .i64 0], [.v (.int .i64 0), .v (.string ⟨#[]⟩), .v (.int .i64 0)], false⟩
  | 58 => some ⟨.sl 9, 1, 24, [.slice none 0 0], [.sl 1 []], false⟩
  | 66 => some ⟨.ptr, 1, 8, [.pointer none], [.v (.pointer none)], false⟩
  | 68 => some ⟨.st [(0, 51), (1, 3), (2, 3), (3, 3), (4, 3)], 5, 56, [.slice none 0 0, .int .i64 0, .int .i64 0, .int .i64 0, .int .i64 0], [.sl 3 [], .v (.int .i64 0), .v (.int .i64 0), .v (.int .i64 0), .v (.int .i64 0)], false⟩
  | 71 => some ⟨.sl 5, 1, 24, [.slice none 0 0], [.sl 1 []], false⟩
  | _ => none
@[go_sem] theorem T_2 : T 2 = some ⟨.int .i64, 1, 8, [.int .i64 0], [.v (.int .i64 0)], false⟩ := (rfl)
@[go_sem] theorem K_2 : kindOf T 2 = .int .i64 := (rfl)
@[go_sem] theorem T_3 : T 3 = some ⟨.int .i64, 1, 8, [.int .i64 0], [.v (.int .i64 0)], false⟩ := (rfl)
@[go_sem] theorem K_3 : kindOf T 3 = .int .i64 := (rfl)
@[go_sem] theorem T_4 : T 4 = some ⟨.bool, 1, 1, [.bool false], [.v (.bool false)], false⟩ := (rfl)
@[go_sem] theorem K_4 : kindOf T 4 = .bool := (rfl)
@[go_sem] theorem T_5 : T 5 = some ⟨.int .u8, 1, 1, [.int .u8 0], [.v (.int .u8 0)], false⟩ := (rfl)
@[go_sem] theorem K_5 : kindOf T 5 = .int .u8 := (rfl)
@[go_sem] theorem T_9 : T 9 = some ⟨.str, 1, 16, [.string ⟨#[]⟩], [.v (.string ⟨#[]⟩)], false⟩ := (rfl)
@[go_sem] theorem K_9 : kindOf T 9 = .str := (rfl)
@[go_sem] theorem T_21 : T 21 = some ⟨.int .i32, 1, 4, [.int .i32 0], [.v (.int .i32 0)], false⟩ := (rfl)
@[go_sem] theorem K_21 : kindOf T 21 = .int .i32 := (rfl)
@[go_sem] theorem T_23 : T 23 = some ⟨.st [(0, 3), (1, 3)], 2, 16, [.int .i64 0, .int .i64 0], [.v (.int .i64 0), .v (.int .i64 0)], true⟩ := (rfl)
@[go_sem] theorem K_23 : kindOf T 23 = .st [(0, 3), (1, 3)] := (rfl)
@[go_sem] theorem T_24 : T 24 = some ⟨.sl 26, 1, 24, [.slice none 0 0], [.sl 8 []], false⟩ := (rfl)
@[go_sem] theorem K_24 : kindOf T 24 = .sl 26 := (rfl)
@[go_sem] theorem T_26 : T 26 = some ⟨.st [(0, 3), (1, 4), (2, 23), (4, 9), (5, 4), (6, 4), (7, 24)], 8, 80, [.int .i64 0, .bool false, .int .i64 0, .int .i64 0, .string ⟨#[]⟩, .bool false, .bool false, .slice none 0 0], [.v (.int .i64 0), .v (.bool false), .v (.int .i64 0), .v (.int .i64 0), .v (.string ⟨#[]⟩), .v (.bool false), .v (.bool false), .sl 8 []], false⟩ := (rfl)
@[go_sem] theorem K_26 : kindOf T 26 = .st [(0, 3), (1, 4), (2, 23), (4, 9), (5, 4), (6, 4), (7, 24)] := (rfl)
@[go_sem] theorem T_27 : T 27 = some ⟨.sl 29, 1, 24, [.slice none 0 0], [.sl 6 []], false⟩ := (rfl)
@[go_sem] theorem K_27 : kindOf T 27 = .sl 29 := (rfl)
@[go_sem] theorem T_29 : T 29 = some ⟨.st [(0, 3), (1, 4), (2, 23), (4, 9), (5, 27)], 6, 72, [.int .i64 0, .bool false, .int .i64 0, .int .i64 0, .string ⟨#[]⟩, .slice none 0 0], [.v (.int .i64 0), .v (.bool false), .v (.int .i64 0), .v (.int .i64 0), .v (.string ⟨#[]⟩), .sl 6 []], false⟩ := (rfl)
@[go_sem] theorem K_29 : kindOf T 29 = .st [(0, 3), (1, 4), (2, 23), (4, 9), (5, 27)] := (rfl)
@[go_sem] theorem T_51 : T 51 = some ⟨.sl 57, 1, 24, [.slice none 0 0], [.sl 3 []], false⟩ := (rfl)
@[go_sem] theorem K_51 : kindOf T 51 = .sl 57 := (rfl)
@[go_sem] theorem T_57 : T 57 = some ⟨.st [(0, 3), (1, 9), (2, 3)], 3, 32, [.int .i64 0, .string ⟨#[]⟩, .int .i64 0], [.v (.int .i64 0), .v (.string ⟨#[]⟩), .v (.int .i64 0)], false⟩ := (rfl)
@[go_sem] theorem K_57 : kindOf T 57 = .st [(0, 3), (1, 9), (2, 3)] := (rfl)
@[go_sem] theorem T_58 : T 58 = some ⟨.sl 9, 1, 24, [.slice none 0 0], [.sl 1 []], false⟩ := (rfl)
@[go_sem] theorem K_58 : kindOf T 58 = .sl 9 := (rfl)
@[go_sem] theorem T_66 : T 66 = some ⟨.ptr, 1, 8, [.pointer none], [.v (.pointer none)], false⟩ := (rfl)
@[go_sem] theorem K_66 : kindOf T 66 = .ptr := (rfl)
@[go_sem] theorem T_68 : T 68 = some ⟨.st [(0, 51), (1, 3), (2, 3), (3, 3), (4, 3)], 5, 56, [.slice none 0 0, .int .i64 0, .int .i64 0, .int .i64 0, .int .i64 0], [.sl 3 [], .v (.int .i64 0), .v (.int .i64 0), .v (.int .i64 0), .v (.int .i64 0)], false⟩ := (rfl)
@[go_sem] theorem K_68 : kindOf T 68 = .st [(0, 51), (1, 3), (2, 3), (3, 3), (4, 3)] := (rfl)
@[go_sem] theorem T_71 : T 71 = some ⟨.sl 5, 1, 24, [.slice none 0 0], [.sl 1 []], false⟩ := (rfl)
@[go_sem] theorem K_71 : kindOf T 71 = .sl 5 := (rfl)
set_option maxRecDepth 100000 in
theorem tabOk : TabOk Go.Proofs.Tryd.prog T := by
  intro t i h
  unfold T at h
  split at h
  · injection h with h; subst h; exact ⟨by kernel_rfl, by kernel_rfl, fun e => absurd e (by simp), rfl, ⟨rfl, trivial⟩⟩
  · injection h with h; subst h; exact ⟨by kernel_rfl, by kernel_rfl, fun e => absurd e (by simp), rfl, ⟨rfl, trivial⟩⟩
  · injection h with h; subst h; exact ⟨by kernel_rfl, by kernel_rfl, fun e => absurd e (by simp), rfl, ⟨rfl, trivial⟩⟩
  · injection h with h; subst h; exact ⟨by kernel_rfl, by kernel_rfl, fun e => absurd e (by simp), rfl, ⟨rfl, trivial⟩⟩
  · injection h with h; subst h; exact ⟨by kernel_rfl, by kernel_rfl, fun e => absurd e (by simp), rfl, ⟨rfl, trivial⟩⟩
  · injection h with h; subst h; exact ⟨by kernel_rfl, by kernel_rfl, fun e => absurd e (by simp), rfl, ⟨rfl, trivial⟩⟩
  · injection h with h; subst h; exact ⟨by kernel_rfl, by kernel_rfl, fun _ => by kernel_rfl, rfl, ⟨rfl, ⟨rfl, trivial⟩⟩⟩
  · injection h with h; subst h; exact ⟨by kernel_rfl, by kernel_rfl, fun e => absurd e (by simp), rfl, ⟨rfl, trivial⟩⟩
  · injection h with h; subst h; exact ⟨by kernel_rfl, by kernel_rfl, fun e => absurd e (by simp), rfl, ⟨rfl, ⟨rfl, ⟨rfl, ⟨rfl, ⟨rfl, ⟨rfl, ⟨rfl, ⟨rfl, trivial⟩⟩⟩⟩⟩⟩⟩⟩⟩
  · injection h with h; subst h; exact ⟨by kernel_rfl, by kernel_rfl, fun e => absurd e (by simp), rfl, ⟨rfl, trivial⟩⟩
  · injection h with h; subst h; exact ⟨by kernel_rfl, by kernel_rfl, fun e => absurd e (by simp), rfl, ⟨rfl, ⟨rfl, ⟨rfl, ⟨rfl, ⟨rfl, ⟨rfl, trivial⟩⟩⟩⟩⟩⟩⟩
  · injection h with h; subst h; exact ⟨by kernel_rfl, by kernel_rfl, fun e => absurd e (by simp), rfl, ⟨rfl, trivial⟩⟩
  · injection h with h; subst h; exact ⟨by kernel_rfl, by kernel_rfl, fun e => absurd e (by simp), rfl, ⟨rfl, ⟨rfl, ⟨rfl, trivial⟩⟩⟩⟩
  · injection h with h; subst h; exact ⟨by kernel_rfl, by kernel_rfl, fun e => absurd e (by simp), rfl, ⟨rfl, trivial⟩⟩
  · injection h with h; subst h; exact ⟨by kernel_rfl, by kernel_rfl, fun e => absurd e (by simp), rfl, ⟨rfl, trivial⟩⟩
  · injection h with h; subst h; exact ⟨by kernel_rfl, by kernel_rfl, fun e => absurd e (by simp), rfl, ⟨rfl, ⟨rfl, ⟨rfl, ⟨rfl, ⟨rfl, trivial⟩⟩⟩⟩⟩⟩
  · injection h with h; subst h; exact ⟨by kernel_rfl, by kernel_rfl, fun e => absurd e (by simp), rfl, ⟨rfl, trivial⟩⟩
  · cases h
end Go.Proofs.YtjoamcalgfelpaaDoor.A
