/- The table of types of this program. -/
import Derived.Test.YthalbglkjeafkaaAVc
import Derived.KernelRfl
import Derived.Test.YthalbglkjeafkaaProg
namespace Go.Proofs.Ythalbglkjeafkaa.A.L
open Go.RowKit
def T : TypeId → Option TI
  | 3 => some ⟨.int .i64, 1, 8, [.int .i64 0], [.v (.int .i64 0)], false⟩
  | 4 => some ⟨.bool, 1, 1, [.bool false], [.v (.bool false)], false⟩
  | 5 => some ⟨.int .u8, 1, 1, [.int .u8 0], [.v (.int .u8 0)], false⟩
  | 9 => some ⟨.str, 1, 16, [.string ⟨#[]⟩], [.v (.string ⟨#[]⟩)], false⟩
  | 21 => some ⟨.int .i32, 1, 4, [.int .i32 0], [.v (.int .i32 0)], false⟩
  | 23 => some ⟨.st [(0, 3), (1, 3)], 2, 16, [.int .i64 0, .int .i64 0], [.v (.int .i64 0), .v (.int .i64 0)], true⟩
  | 24 => some ⟨.sl 26, 1, 24, [.slice none 0 0], [.v (.slice none 0 0)], false⟩
  | 26 => some ⟨.st [(0, 3), (1, 4), (2, 23), (4, 9), (5, 24)], 6, 72, [.int .i64 0, .bool false, .int .i64 0, .int .i64 0, .string ⟨#[]⟩, .slice none 0 0], [.v (.int .i64 0), .v (.bool false), .v (.int .i64 0), .v (.int .i64 0), .v (.string ⟨#[]⟩), .v (.slice none 0 0)], false⟩
  | 28 => some ⟨.st [(0, 9), (1, 26)], 7, 88, [.string ⟨#[]⟩, .int .i64 0, .bool false, .int .i64 0, .int .i64 0, .string ⟨#[]⟩, .slice none 0 0], [.v (.string ⟨#[]⟩), .v (.int .i64 0), .v (.bool false), .v (.int .i64 0), .v (.int .i64 0), .v (.string ⟨#[]⟩), .v (.slice none 0 0)], false⟩
  | 29 => some ⟨.st [(0, 9), (1, 26)], 7, 88, [.string ⟨#[]⟩, .int .i64 0, .bool false, .int .i64 0, .int .i64 0, .string ⟨#[]⟩, .slice none 0 0], [.v (.string ⟨#[]⟩), .v (.int .i64 0), .v (.bool false), .v (.int .i64 0), .v (.int .i64 0), .v (.string ⟨#[]⟩), .v (.slice none 0 0)], false⟩
  | 30 => some ⟨.sl 29, 1, 24, [.slice none 0 0], [.v (.slice none 0 0)], false⟩
  | 31 => some ⟨.int .i64, 1, 8, [.int .i64 0], [.v (.int .i64 0)], false⟩
  | 36 => some ⟨.sl 3, 1, 24, [.slice none 0 0], [.v (.slice none 0 0)], false⟩
  | 37 => some ⟨.sl 39, 1, 24, [.slice none 0 0], [.v (.slice none 0 0)], false⟩
  | 39 => some ⟨.st [(0, 3), (1, 4), (2, 23), (4, 9), (5, 4), (6, 4), (7, 37)], 8, 80, [.int .i64 0, .bool false, .int .i64 0, .int .i64 0, .string ⟨#[]⟩, .bool false, .bool false, .slice none 0 0], [.v (.int .i64 0), .v (.bool false), .v (.int .i64 0), .v (.int .i64 0), .v (.string ⟨#[]⟩), .v (.bool false), .v (.bool false), .v (.slice none 0 0)], false⟩
  | 40 => some ⟨.sl 9, 1, 24, [.slice none 0 0], [.v (.slice none 0 0)], false⟩
  | 53 => some ⟨.sl 59, 1, 24, [.slice none 0 0], [.v (.slice none 0 0)], false⟩
  | 59 => some ⟨.st [(0, 3), (1, 9), (2, 3)], 3, 32, [.int .i64 0, .string ⟨#[]⟩, .int .i64 0], [.v (.int .i64 0), .v (.string ⟨#[]⟩), .v (.int .i64 0)], false⟩
  | 71 => some ⟨.ptr, 1, 8, [.pointer none], [.v (.pointer none)], false⟩
  | 73 => some ⟨.st [(0, 53), (1, 3), (2, 3), (3, 3), (4, 3)], 5, 56, [.slice none 0 0, .int .i64 0, .int .i64 0, .int .i64 0, .int .i64 0], [.v (.slice none 0 0), .v (.int .i64 0), .v (.int .i64 0), .v (.int .i64 0), .v (.int .i64 0)], false⟩
  | _ => none
@[go_sem] theorem T_3 : T 3 = some ⟨.int .i64, 1, 8, [.int .i64 0], [.v (.int .i64 0)], false⟩ := rfl
@[go_sem] theorem K_3 : kindOf T 3 = .int .i64 := rfl
@[go_sem] theorem T_4 : T 4 = some ⟨.bool, 1, 1, [.bool false], [.v (.bool false)], false⟩ := rfl
@[go_sem] theorem K_4 : kindOf T 4 = .bool := rfl
@[go_sem] theorem T_5 : T 5 = some ⟨.int .u8, 1, 1, [.int .u8 0], [.v (.int .u8 0)], false⟩ := rfl
@[go_sem] theorem K_5 : kindOf T 5 = .int .u8 := rfl
@[go_sem] theorem T_9 : T 9 = some ⟨.str, 1, 16, [.string ⟨#[]⟩], [.v (.string ⟨#[]⟩)], false⟩ := rfl
@[go_sem] theorem K_9 : kindOf T 9 = .str := rfl
@[go_sem] theorem T_21 : T 21 = some ⟨.int .i32, 1, 4, [.int .i32 0], [.v (.int .i32 0)], false⟩ := rfl
@[go_sem] theorem K_21 : kindOf T 21 = .int .i32 := rfl
@[go_sem] theorem T_23 : T 23 = some ⟨.st [(0, 3), (1, 3)], 2, 16, [.int .i64 0, .int .i64 0], [.v (.int .i64 0), .v (.int .i64 0)], true⟩ := rfl
@[go_sem] theorem K_23 : kindOf T 23 = .st [(0, 3), (1, 3)] := rfl
@[go_sem] theorem T_24 : T 24 = some ⟨.sl 26, 1, 24, [.slice none 0 0], [.v (.slice none 0 0)], false⟩ := rfl
@[go_sem] theorem K_24 : kindOf T 24 = .sl 26 := rfl
@[go_sem] theorem T_26 : T 26 = some ⟨.st [(0, 3), (1, 4), (2, 23), (4, 9), (5, 24)], 6, 72, [.int .i64 0, .bool false, .int .i64 0, .int .i64 0, .string ⟨#[]⟩, .slice none 0 0], [.v (.int .i64 0), .v (.bool false), .v (.int .i64 0), .v (.int .i64 0), .v (.string ⟨#[]⟩), .v (.slice none 0 0)], false⟩ := rfl
@[go_sem] theorem K_26 : kindOf T 26 = .st [(0, 3), (1, 4), (2, 23), (4, 9), (5, 24)] := rfl
@[go_sem] theorem T_28 : T 28 = some ⟨.st [(0, 9), (1, 26)], 7, 88, [.string ⟨#[]⟩, .int .i64 0, .bool false, .int .i64 0, .int .i64 0, .string ⟨#[]⟩, .slice none 0 0], [.v (.string ⟨#[]⟩), .v (.int .i64 0), .v (.bool false), .v (.int .i64 0), .v (.int .i64 0), .v (.string ⟨#[]⟩), .v (.slice none 0 0)], false⟩ := rfl
@[go_sem] theorem K_28 : kindOf T 28 = .st [(0, 9), (1, 26)] := rfl
@[go_sem] theorem T_29 : T 29 = some ⟨.st [(0, 9), (1, 26)], 7, 88, [.string ⟨#[]⟩, .int .i64 0, .bool false, .int .i64 0, .int .i64 0, .string ⟨#[]⟩, .slice none 0 0], [.v (.string ⟨#[]⟩), .v (.int .i64 0), .v (.bool false), .v (.int .i64 0), .v (.int .i64 0), .v (.string ⟨#[]⟩), .v (.slice none 0 0)], false⟩ := rfl
@[go_sem] theorem K_29 : kindOf T 29 = .st [(0, 9), (1, 26)] := rfl
@[go_sem] theorem T_30 : T 30 = some ⟨.sl 29, 1, 24, [.slice none 0 0], [.v (.slice none 0 0)], false⟩ := rfl
@[go_sem] theorem K_30 : kindOf T 30 = .sl 29 := rfl
@[go_sem] theorem T_31 : T 31 = some ⟨.int .i64, 1, 8, [.int .i64 0], [.v (.int .i64 0)], false⟩ := rfl
@[go_sem] theorem K_31 : kindOf T 31 = .int .i64 := rfl
@[go_sem] theorem T_36 : T 36 = some ⟨.sl 3, 1, 24, [.slice none 0 0], [.v (.slice none 0 0)], false⟩ := rfl
@[go_sem] theorem K_36 : kindOf T 36 = .sl 3 := rfl
@[go_sem] theorem T_37 : T 37 = some ⟨.sl 39, 1, 24, [.slice none 0 0], [.v (.slice none 0 0)], false⟩ := rfl
@[go_sem] theorem K_37 : kindOf T 37 = .sl 39 := rfl
@[go_sem] theorem T_39 : T 39 = some ⟨.st [(0, 3), (1, 4), (2, 23), (4, 9), (5, 4), (6, 4), (7, 37)], 8, 80, [.int .i64 0, .bool false, .int .i64 0, .int .i64 0, .string ⟨#[]⟩, .bool false, .bool false, .slice none 0 0], [.v (.int .i64 0), .v (.bool false), .v (.int .i64 0), .v (.int .i64 0), .v (.string ⟨#[]⟩), .v (.bool false), .v (.bool false), .v (.slice none 0 0)], false⟩ := rfl
@[go_sem] theorem K_39 : kindOf T 39 = .st [(0, 3), (1, 4), (2, 23), (4, 9), (5, 4), (6, 4), (7, 37)] := rfl
@[go_sem] theorem T_40 : T 40 = some ⟨.sl 9, 1, 24, [.slice none 0 0], [.v (.slice none 0 0)], false⟩ := rfl
@[go_sem] theorem K_40 : kindOf T 40 = .sl 9 := rfl
@[go_sem] theorem T_53 : T 53 = some ⟨.sl 59, 1, 24, [.slice none 0 0], [.v (.slice none 0 0)], false⟩ := rfl
@[go_sem] theorem K_53 : kindOf T 53 = .sl 59 := rfl
@[go_sem] theorem T_59 : T 59 = some ⟨.st [(0, 3), (1, 9), (2, 3)], 3, 32, [.int .i64 0, .string ⟨#[]⟩, .int .i64 0], [.v (.int .i64 0), .v (.string ⟨#[]⟩), .v (.int .i64 0)], false⟩ := rfl
@[go_sem] theorem K_59 : kindOf T 59 = .st [(0, 3), (1, 9), (2, 3)] := rfl
@[go_sem] theorem T_71 : T 71 = some ⟨.ptr, 1, 8, [.pointer none], [.v (.pointer none)], false⟩ := rfl
@[go_sem] theorem K_71 : kindOf T 71 = .ptr := rfl
@[go_sem] theorem T_73 : T 73 = some ⟨.st [(0, 53), (1, 3), (2, 3), (3, 3), (4, 3)], 5, 56, [.slice none 0 0, .int .i64 0, .int .i64 0, .int .i64 0, .int .i64 0], [.v (.slice none 0 0), .v (.int .i64 0), .v (.int .i64 0), .v (.int .i64 0), .v (.int .i64 0)], false⟩ := rfl
@[go_sem] theorem K_73 : kindOf T 73 = .st [(0, 53), (1, 3), (2, 3), (3, 3), (4, 3)] := rfl
set_option maxRecDepth 100000 in
theorem tabOk : TabOk Go.Proofs.Try.prog T := by
  intro t i h
  unfold T at h
  split at h
  · injection h with h; subst h; exact ⟨by kernel_rfl, by kernel_rfl, fun e => absurd e (by simp), rfl, ⟨rfl, trivial⟩⟩
  · injection h with h; subst h; exact ⟨by kernel_rfl, by kernel_rfl, fun e => absurd e (by simp), rfl, ⟨rfl, trivial⟩⟩
  · injection h with h; subst h; exact ⟨by kernel_rfl, by kernel_rfl, fun e => absurd e (by simp), rfl, ⟨rfl, trivial⟩⟩
  · injection h with h; subst h; exact ⟨by kernel_rfl, by kernel_rfl, fun e => absurd e (by simp), rfl, ⟨rfl, trivial⟩⟩
  · injection h with h; subst h; exact ⟨by kernel_rfl, by kernel_rfl, fun e => absurd e (by simp), rfl, ⟨rfl, trivial⟩⟩
  · injection h with h; subst h; exact ⟨by kernel_rfl, by kernel_rfl, fun _ => by kernel_rfl, rfl, ⟨rfl, ⟨rfl, trivial⟩⟩⟩
  · injection h with h; subst h; exact ⟨by kernel_rfl, by kernel_rfl, fun e => absurd e (by simp), rfl, ⟨rfl, trivial⟩⟩
  · injection h with h; subst h; exact ⟨by kernel_rfl, by kernel_rfl, fun e => absurd e (by simp), rfl, ⟨rfl, ⟨rfl, ⟨rfl, ⟨rfl, ⟨rfl, ⟨rfl, trivial⟩⟩⟩⟩⟩⟩⟩
  · injection h with h; subst h; exact ⟨by kernel_rfl, by kernel_rfl, fun e => absurd e (by simp), rfl, ⟨rfl, ⟨rfl, ⟨rfl, ⟨rfl, ⟨rfl, ⟨rfl, ⟨rfl, trivial⟩⟩⟩⟩⟩⟩⟩⟩
  · injection h with h; subst h; exact ⟨by kernel_rfl, by kernel_rfl, fun e => absurd e (by simp), rfl, ⟨rfl, ⟨rfl, ⟨rfl, ⟨rfl, ⟨rfl, ⟨rfl, ⟨rfl, trivial⟩⟩⟩⟩⟩⟩⟩⟩
  · injection h with h; subst h; exact ⟨by kernel_rfl, by kernel_rfl, fun e => absurd e (by simp), rfl, ⟨rfl, trivial⟩⟩
  · injection h with h; subst h; exact ⟨by kernel_rfl, by kernel_rfl, fun e => absurd e (by simp), rfl, ⟨rfl, trivial⟩⟩
  · injection h with h; subst h; exact ⟨by kernel_rfl, by kernel_rfl, fun e => absurd e (by simp), rfl, ⟨rfl, trivial⟩⟩
  · injection h with h; subst h; exact ⟨by kernel_rfl, by kernel_rfl, fun e => absurd e (by simp), rfl, ⟨rfl, trivial⟩⟩
  · injection h with h; subst h; exact ⟨by kernel_rfl, by kernel_rfl, fun e => absurd e (by simp), rfl, ⟨rfl, ⟨rfl, ⟨rfl, ⟨rfl, ⟨rfl, ⟨rfl, ⟨rfl, ⟨rfl, trivial⟩⟩⟩⟩⟩⟩⟩⟩⟩
  · injection h with h; subst h; exact ⟨by kernel_rfl, by kernel_rfl, fun e => absurd e (by simp), rfl, ⟨rfl, trivial⟩⟩
  · injection h with h; subst h; exact ⟨by kernel_rfl, by kernel_rfl, fun e => absurd e (by simp), rfl, ⟨rfl, trivial⟩⟩
  · injection h with h; subst h; exact ⟨by kernel_rfl, by kernel_rfl, fun e => absurd e (by simp), rfl, ⟨rfl, ⟨rfl, ⟨rfl, trivial⟩⟩⟩⟩
  · injection h with h; subst h; exact ⟨by kernel_rfl, by kernel_rfl, fun e => absurd e (by simp), rfl, ⟨rfl, trivial⟩⟩
  · injection h with h; subst h; exact ⟨by kernel_rfl, by kernel_rfl, fun e => absurd e (by simp), rfl, ⟨rfl, ⟨rfl, ⟨rfl, ⟨rfl, ⟨rfl, trivial⟩⟩⟩⟩⟩⟩
  · cases h
end Go.Proofs.Ythalbglkjeafkaa.A.L
