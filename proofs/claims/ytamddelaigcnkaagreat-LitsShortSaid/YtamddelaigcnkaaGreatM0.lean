/- The functions' texts, all. No condition. -/
import Derived.Test.YtamddelaigcnkaaGreatCtx
import Derived.Test.YtamddelaigcnkaaGreatSimWp
import Derived.Test.YtamddelaigcnkaaGreatSimSeal

namespace Go.Proofs.YtamddelaigcnkaaGreat
open Go.Sim

theorem ty0 : ctx.ty.get 0 = some ⟨0, (.tuple #[]), 1, 0, none, false, false, false, []⟩ := by kernel_rfl
theorem ty1 : ctx.ty.get 1 = some ⟨1, (.func #[] #[] false), 1, 8, some .nilFunc, false, false, false, []⟩ := by kernel_rfl
theorem ty2 : ctx.ty.get 2 = some ⟨2, (.int .i64), 1, 8, some (ip 0), true, false, false, []⟩ := by kernel_rfl
theorem ty3 : ctx.ty.get 3 = some ⟨3, (.int .i64), 1, 8, some (ip 0), true, false, false, []⟩ := by kernel_rfl
theorem ty4 : ctx.ty.get 4 = some ⟨4, .bool, 1, 1, some (.bool false), true, false, false, []⟩ := by kernel_rfl
theorem ty5 : ctx.ty.get 5 = some ⟨5, (.int .u8), 1, 1, some (.int .u8 (.ofNat 0)), true, false, false, []⟩ := by kernel_rfl
theorem ty6 : ctx.ty.get 6 = some ⟨6, (.int .u8), 1, 1, some (.int .u8 (.ofNat 0)), true, false, false, []⟩ := by kernel_rfl
theorem ty7 : ctx.ty.get 7 = some ⟨7, (.struct #[⟨"x", 2, 0, false, "", "runtime", 0⟩, ⟨"y", 3, 1, false, "", "runtime", 8⟩, ⟨"signed", 4, 2, false, "", "runtime", 16⟩, ⟨"code", 6, 3, false, "", "runtime", 17⟩]), 4, 24, some (.agg [(ip 0), (ip 0), (.bool false), (.int .u8 (.ofNat 0))]), true, false, false, []⟩ := by kernel_rfl
theorem ty8 : ctx.ty.get 8 = some ⟨8, (.struct #[⟨"x", 2, 0, false, "", "runtime", 0⟩, ⟨"y", 3, 1, false, "", "runtime", 8⟩, ⟨"signed", 4, 2, false, "", "runtime", 16⟩, ⟨"code", 6, 3, false, "", "runtime", 17⟩]), 4, 24, some (.agg [(ip 0), (ip 0), (.bool false), (.int .u8 (.ofNat 0))]), true, false, false, [⟨"Error", 102, #[], some (254, false)⟩, ⟨"RuntimeError", 1, #[], some (255, false)⟩]⟩ := by kernel_rfl
theorem ty9 : ctx.ty.get 9 = some ⟨9, .string, 1, 16, some (sb []), true, false, false, []⟩ := by kernel_rfl
theorem ty10 : ctx.ty.get 10 = some ⟨10, .string, 1, 16, some (sb []), true, false, false, [⟨"Error", 102, #[], some (256, false)⟩, ⟨"RuntimeError", 1, #[], some (257, false)⟩]⟩ := by kernel_rfl
theorem ty11 : ctx.ty.get 11 = some ⟨11, .string, 1, 16, some (sb []), true, false, false, [⟨"Error", 102, #[], some (258, false)⟩, ⟨"RuntimeError", 1, #[], some (259, false)⟩]⟩ := by kernel_rfl
theorem ty12 : ctx.ty.get 12 = some ⟨12, (.int .u64), 1, 8, some (.int .u64 (.ofNat 0)), true, false, false, []⟩ := by kernel_rfl
theorem ty13 : ctx.ty.get 13 = some ⟨13, (.struct #[⟨"msg", 9, 0, false, "", "runtime", 0⟩, ⟨"addr", 12, 1, false, "", "runtime", 16⟩]), 2, 24, some (.agg [(sb []), (.int .u64 (.ofNat 0))]), true, true, false, []⟩ := by kernel_rfl
theorem ty14 : ctx.ty.get 14 = some ⟨14, (.struct #[⟨"msg", 9, 0, false, "", "runtime", 0⟩, ⟨"addr", 12, 1, false, "", "runtime", 16⟩]), 2, 24, some (.agg [(sb []), (.int .u64 (.ofNat 0))]), true, true, false, [⟨"Error", 102, #[], some (260, false)⟩, ⟨"RuntimeError", 1, #[], some (261, false)⟩]⟩ := by kernel_rfl
theorem ty15 : ctx.ty.get 15 = some ⟨15, (.pointer 376), 1, 8, some .nilptr, true, false, false, [⟨"Error", 102, #[], some (262, true)⟩, ⟨"RuntimeError", 1, #[], some (263, true)⟩]⟩ := by kernel_rfl
theorem ty16 : ctx.ty.get 16 = some ⟨16, (.pointer 379), 1, 8, some .nilptr, true, false, false, [⟨"Error", 102, #[], some (264, true)⟩, ⟨"RuntimeError", 1, #[], some (265, true)⟩]⟩ := by kernel_rfl
theorem ty17 : ctx.ty.get 17 = some ⟨17, (.pointer 386), 1, 8, some .nilptr, true, false, false, [⟨"Align", 101, #[], some (266, true)⟩, ⟨"Kind", 389, #[], some (279, true)⟩, ⟨"Len", 101, #[], some (267, true)⟩, ⟨"Size", 390, #[], some (280, true)⟩]⟩ := by kernel_rfl
theorem ty18 : ctx.ty.get 18 = some ⟨18, (.struct #[⟨"typ", 17, 0, false, "", "internal/runtime/maps", 0⟩]), 1, 8, some (.agg [.nilptr]), true, true, false, []⟩ := by kernel_rfl
theorem ty19 : ctx.ty.get 19 = some ⟨19, (.struct #[⟨"typ", 17, 0, false, "", "internal/runtime/maps", 0⟩]), 1, 8, some (.agg [.nilptr]), true, true, false, [⟨"Error", 102, #[], some (268, false)⟩, ⟨"RuntimeError", 1, #[], some (269, false)⟩]⟩ := by kernel_rfl
theorem ty20 : ctx.ty.get 20 = some ⟨20, (.interface #[]), 1, 16, some .nilIface, true, false, false, []⟩ := by kernel_rfl
theorem ty21 : ctx.ty.get 21 = some ⟨21, (.int .i32), 1, 4, some (.int .i32 (.ofNat 0)), true, false, false, []⟩ := by kernel_rfl
theorem ty22 : ctx.ty.get 22 = some ⟨22, (.func #[] #[4] false), 1, 8, some .nilFunc, false, false, false, []⟩ := by kernel_rfl
theorem ty23 : ctx.ty.get 23 = some ⟨23, (.int .i64), 1, 8, some (ip 0), true, false, false, [⟨"Error", 102, #[], some (270, false)⟩]⟩ := by kernel_rfl
theorem ty24 : ctx.ty.get 24 = some ⟨24, (.tuple #[9, 23]), 1, 0, none, false, false, false, []⟩ := by kernel_rfl
theorem ty25 : ctx.ty.get 25 = some ⟨25, (.func #[3, 3, 3] #[9, 23] false), 1, 8, some .nilFunc, false, false, false, []⟩ := by kernel_rfl
theorem ty26 : ctx.ty.get 26 = some ⟨26, (.struct #[⟨"Err", 23, 0, false, "", "", 0⟩, ⟨"At", 3, 1, false, "", "", 8⟩]), 2, 16, some (.agg [(ip 0), (ip 0)]), true, false, false, []⟩ := by kernel_rfl
theorem ty27 : ctx.ty.get 27 = some ⟨27, (.struct #[⟨"Err", 23, 0, false, "", "", 0⟩, ⟨"At", 3, 1, false, "", "", 8⟩]), 2, 16, some (.agg [(ip 0), (ip 0)]), true, false, false, []⟩ := by kernel_rfl
theorem ty28 : ctx.ty.get 28 = some ⟨28, (.tuple #[3, 3, 3, 3, 3, 27]), 1, 0, none, false, false, false, []⟩ := by kernel_rfl
theorem ty29 : ctx.ty.get 29 = some ⟨29, (.func #[9, 3] #[3, 3, 3, 3, 3, 27] false), 1, 8, some .nilFunc, false, false, false, []⟩ := by kernel_rfl
theorem ty30 : ctx.ty.get 30 = some ⟨30, (.func #[3, 3, 3, 9, 3] #[4] false), 1, 8, some .nilFunc, false, false, false, []⟩ := by kernel_rfl
theorem ty31 : ctx.ty.get 31 = some ⟨31, (.func #[3, 3] #[3] false), 1, 8, some .nilFunc, false, false, false, []⟩ := by kernel_rfl
theorem ty32 : ctx.ty.get 32 = some ⟨32, (.func #[3, 3, 3] #[4] false), 1, 8, some .nilFunc, false, false, false, []⟩ := by kernel_rfl
theorem ty33 : ctx.ty.get 33 = some ⟨33, (.slice 3), 1, 24, some .nilslice, false, false, false, []⟩ := by kernel_rfl
theorem ty34 : ctx.ty.get 34 = some ⟨34, (.tuple #[9, 33, 3, 27]), 1, 0, none, false, false, false, []⟩ := by kernel_rfl
theorem ty35 : ctx.ty.get 35 = some ⟨35, (.func #[9, 3, 33, 3] #[9, 33, 3, 27] false), 1, 8, some .nilFunc, false, false, false, []⟩ := by kernel_rfl
theorem ty36 : ctx.ty.get 36 = some ⟨36, (.func #[9, 9] #[4] false), 1, 8, some .nilFunc, false, false, false, []⟩ := by kernel_rfl
theorem ty37 : ctx.ty.get 37 = some ⟨37, (.func #[3, 3, 3, 9] #[4] false), 1, 8, some .nilFunc, false, false, false, []⟩ := by kernel_rfl
theorem ty38 : ctx.ty.get 38 = some ⟨38, (.func #[9, 3, 23] #[4] false), 1, 8, some .nilFunc, false, false, false, []⟩ := by kernel_rfl
theorem ty39 : ctx.ty.get 39 = some ⟨39, (.int .i64), 1, 8, some (ip 0), true, false, false, [⟨"cheesepress/lits.formats", 57, #[], some (21, false)⟩]⟩ := by kernel_rfl
theorem ty40 : ctx.ty.get 40 = some ⟨40, (.tuple #[9, 4]), 1, 0, none, false, false, false, []⟩ := by kernel_rfl
theorem ty41 : ctx.ty.get 41 = some ⟨41, (.func #[39, 3, 3] #[9, 4] false), 1, 8, some .nilFunc, false, false, false, []⟩ := by kernel_rfl
theorem ty42 : ctx.ty.get 42 = some ⟨42, (.slice 45), 1, 24, some .nilslice, false, false, false, []⟩ := by kernel_rfl
theorem ty43 : ctx.ty.get 43 = some ⟨43, (.func #[3] #[42] false), 1, 8, some .nilFunc, false, false, false, []⟩ := by kernel_rfl
theorem ty44 : ctx.ty.get 44 = some ⟨44, (.struct #[⟨"number", 3, 0, false, "", "cheesepress/cheesepressref25", 0⟩, ⟨"bytes", 3, 1, false, "", "cheesepress/cheesepressref25", 8⟩, ⟨"n", 3, 2, false, "", "cheesepress/cheesepressref25", 16⟩, ⟨"m", 3, 3, false, "", "cheesepress/cheesepressref25", 24⟩, ⟨"end", 3, 4, false, "", "cheesepress/cheesepressref25", 32⟩, ⟨"streams", 3, 5, false, "", "cheesepress/cheesepressref25", 40⟩]), 6, 48, some (.agg [(ip 0), (ip 0), (ip 0), (ip 0), (ip 0), (ip 0)]), true, false, false, []⟩ := by kernel_rfl
theorem ty45 : ctx.ty.get 45 = some ⟨45, (.struct #[⟨"number", 3, 0, false, "", "cheesepress/cheesepressref25", 0⟩, ⟨"bytes", 3, 1, false, "", "cheesepress/cheesepressref25", 8⟩, ⟨"n", 3, 2, false, "", "cheesepress/cheesepressref25", 16⟩, ⟨"m", 3, 3, false, "", "cheesepress/cheesepressref25", 24⟩, ⟨"end", 3, 4, false, "", "cheesepress/cheesepressref25", 32⟩, ⟨"streams", 3, 5, false, "", "cheesepress/cheesepressref25", 40⟩]), 6, 48, some (.agg [(ip 0), (ip 0), (ip 0), (ip 0), (ip 0), (ip 0)]), true, false, false, []⟩ := by kernel_rfl
theorem ty46 : ctx.ty.get 46 = some ⟨46, (.int .u64), 1, 8, some (.int .u64 (.ofNat 0)), true, false, false, []⟩ := by kernel_rfl
theorem ty47 : ctx.ty.get 47 = some ⟨47, (.int .u64), 1, 8, some (.int .u64 (.ofNat 0)), true, false, false, []⟩ := by kernel_rfl
theorem ty48 : ctx.ty.get 48 = some ⟨48, (.func #[47, 3] #[9, 23] false), 1, 8, some .nilFunc, false, false, false, []⟩ := by kernel_rfl
theorem ty49 : ctx.ty.get 49 = some ⟨49, (.struct #[⟨"S", 9, 0, false, "", "", 0⟩, ⟨"At", 3, 1, false, "", "", 16⟩, ⟨"Fault", 27, 2, false, "", "", 24⟩]), 4, 40, some (.agg [(sb []), (ip 0), (ip 0), (ip 0)]), true, false, false, []⟩ := by kernel_rfl
theorem ty50 : ctx.ty.get 50 = some ⟨50, (.struct #[⟨"S", 9, 0, false, "", "", 0⟩, ⟨"At", 3, 1, false, "", "", 16⟩, ⟨"Fault", 27, 2, false, "", "", 24⟩]), 4, 40, some (.agg [(sb []), (ip 0), (ip 0), (ip 0)]), true, false, false, []⟩ := by kernel_rfl
theorem ty51 : ctx.ty.get 51 = some ⟨51, (.tuple #[50, 3]), 1, 0, none, false, false, false, []⟩ := by kernel_rfl
theorem ty52 : ctx.ty.get 52 = some ⟨52, (.func #[50] #[50, 3] false), 1, 8, some .nilFunc, false, false, false, []⟩ := by kernel_rfl
theorem ty53 : ctx.ty.get 53 = some ⟨53, (.func #[9, 3] #[50] false), 1, 8, some .nilFunc, false, false, false, []⟩ := by kernel_rfl
theorem ty54 : ctx.ty.get 54 = some ⟨54, (.struct #[⟨"bytes", 3, 0, false, "", "cheesepress/lits", 0⟩, ⟨"from", 3, 1, false, "", "cheesepress/lits", 8⟩, ⟨"n", 3, 2, false, "", "cheesepress/lits", 16⟩, ⟨"m", 3, 3, false, "", "cheesepress/lits", 24⟩, ⟨"streams", 3, 4, false, "", "cheesepress/lits", 32⟩]), 5, 40, some (.agg [(ip 0), (ip 0), (ip 0), (ip 0), (ip 0)]), true, false, false, []⟩ := by kernel_rfl
theorem ty55 : ctx.ty.get 55 = some ⟨55, (.struct #[⟨"bytes", 3, 0, false, "", "cheesepress/lits", 0⟩, ⟨"from", 3, 1, false, "", "cheesepress/lits", 8⟩, ⟨"n", 3, 2, false, "", "cheesepress/lits", 16⟩, ⟨"m", 3, 3, false, "", "cheesepress/lits", 24⟩, ⟨"streams", 3, 4, false, "", "cheesepress/lits", 32⟩]), 5, 40, some (.agg [(ip 0), (ip 0), (ip 0), (ip 0), (ip 0)]), true, false, false, []⟩ := by kernel_rfl
theorem ty56 : ctx.ty.get 56 = some ⟨56, (.array 4 55), 20, 160, some (.agg [(ip 0), (ip 0), (ip 0), (ip 0), (ip 0), (ip 0), (ip 0), (ip 0), (ip 0), (ip 0), (ip 0), (ip 0), (ip 0), (ip 0), (ip 0), (ip 0), (ip 0), (ip 0), (ip 0), (ip 0)]), true, false, false, []⟩ := by kernel_rfl
theorem ty57 : ctx.ty.get 57 = some ⟨57, (.func #[] #[56] false), 1, 8, some .nilFunc, false, false, false, []⟩ := by kernel_rfl
theorem ty58 : ctx.ty.get 58 = some ⟨58, (.tuple #[50, 47]), 1, 0, none, false, false, false, []⟩ := by kernel_rfl
theorem ty59 : ctx.ty.get 59 = some ⟨59, (.func #[50, 3] #[50, 47] false), 1, 8, some .nilFunc, false, false, false, []⟩ := by kernel_rfl
theorem ty60 : ctx.ty.get 60 = some ⟨60, (.tuple #[47, 3, 27]), 1, 0, none, false, false, false, []⟩ := by kernel_rfl
theorem ty61 : ctx.ty.get 61 = some ⟨61, (.func #[9, 3, 3] #[47, 3, 27] false), 1, 8, some .nilFunc, false, false, false, []⟩ := by kernel_rfl
theorem ty62 : ctx.ty.get 62 = some ⟨62, (.tuple #[47, 23]), 1, 0, none, false, false, false, []⟩ := by kernel_rfl
theorem ty63 : ctx.ty.get 63 = some ⟨63, (.func #[47, 3] #[47, 23] false), 1, 8, some .nilFunc, false, false, false, []⟩ := by kernel_rfl
theorem ty64 : ctx.ty.get 64 = some ⟨64, (.func #[33] #[23] false), 1, 8, some .nilFunc, false, false, false, []⟩ := by kernel_rfl
theorem ty65 : ctx.ty.get 65 = some ⟨65, (.pointer 67), 1, 8, some .nilptr, true, false, false, [⟨"cheesepress/lits.bad", 70, #[], some (27, true)⟩, ⟨"cheesepress/lits.coded", 76, #[], some (31, true)⟩]⟩ := by kernel_rfl
theorem ty66 : ctx.ty.get 66 = some ⟨66, (.struct #[⟨"Cursor", 50, 0, true, "", "", 0⟩, ⟨"begin", 3, 4, false, "", "cheesepress/lits", 40⟩]), 5, 48, some (.agg [(sb []), (ip 0), (ip 0), (ip 0), (ip 0)]), true, false, false, []⟩ := by kernel_rfl
theorem ty67 : ctx.ty.get 67 = some ⟨67, (.struct #[⟨"Cursor", 50, 0, true, "", "", 0⟩, ⟨"begin", 3, 4, false, "", "cheesepress/lits", 40⟩]), 5, 48, some (.agg [(sb []), (ip 0), (ip 0), (ip 0), (ip 0)]), true, false, false, []⟩ := by kernel_rfl
theorem ty68 : ctx.ty.get 68 = some ⟨68, (.tuple #[50, 50]), 1, 0, none, false, false, false, []⟩ := by kernel_rfl
theorem ty69 : ctx.ty.get 69 = some ⟨69, (.func #[50, 3] #[50, 50] false), 1, 8, some .nilFunc, false, false, false, []⟩ := by kernel_rfl
theorem ty70 : ctx.ty.get 70 = some ⟨70, (.func #[23] #[27] false), 1, 8, some .nilFunc, false, false, false, []⟩ := by kernel_rfl
theorem ty71 : ctx.ty.get 71 = some ⟨71, (.func #[33] #[33] false), 1, 8, some .nilFunc, false, false, false, []⟩ := by kernel_rfl
theorem ty72 : ctx.ty.get 72 = some ⟨72, (.func #[9, 3] #[9] false), 1, 8, some .nilFunc, false, false, false, []⟩ := by kernel_rfl
theorem ty73 : ctx.ty.get 73 = some ⟨73, (.tuple #[33, 3, 27]), 1, 0, none, false, false, false, []⟩ := by kernel_rfl
theorem ty74 : ctx.ty.get 74 = some ⟨74, (.func #[9, 3] #[33, 3, 27] false), 1, 8, some .nilFunc, false, false, false, []⟩ := by kernel_rfl
theorem ty75 : ctx.ty.get 75 = some ⟨75, (.tuple #[9, 27]), 1, 0, none, false, false, false, []⟩ := by kernel_rfl
theorem ty76 : ctx.ty.get 76 = some ⟨76, (.func #[33, 9, 3, 3] #[9, 27] false), 1, 8, some .nilFunc, false, false, false, []⟩ := by kernel_rfl
theorem ty77 : ctx.ty.get 77 = some ⟨77, (.tuple #[9, 33, 23]), 1, 0, none, false, false, false, []⟩ := by kernel_rfl
theorem ty78 : ctx.ty.get 78 = some ⟨78, (.func #[9, 33] #[9, 33, 23] false), 1, 8, some .nilFunc, false, false, false, []⟩ := by kernel_rfl
theorem ty79 : ctx.ty.get 79 = some ⟨79, (.slice 5), 1, 24, some .nilslice, false, false, false, []⟩ := by kernel_rfl
theorem ty80 : ctx.ty.get 80 = some ⟨80, (.pointer 86), 1, 8, some .nilptr, true, false, false, [⟨"cheesepress/cursor.bad", 22, #[], some (38, true)⟩, ⟨"cheesepress/cursor.bytes", 84, #[], some (37, true)⟩, ⟨"cheesepress/cursor.done", 82, #[], some (35, true)⟩, ⟨"cheesepress/cursor.left", 101, #[], some (56, true)⟩]⟩ := by kernel_rfl
theorem ty81 : ctx.ty.get 81 = some ⟨81, (.func #[50] #[80] false), 1, 8, some .nilFunc, false, false, false, []⟩ := by kernel_rfl
theorem ty82 : ctx.ty.get 82 = some ⟨82, (.func #[3] #[50, 3] false), 1, 8, some .nilFunc, false, false, false, []⟩ := by kernel_rfl
theorem ty83 : ctx.ty.get 83 = some ⟨83, (.func #[9] #[47] false), 1, 8, some .nilFunc, false, false, false, []⟩ := by kernel_rfl
theorem ty84 : ctx.ty.get 84 = some ⟨84, (.func #[3] #[9] false), 1, 8, some .nilFunc, false, false, false, []⟩ := by kernel_rfl
theorem ty85 : ctx.ty.get 85 = some ⟨85, (.struct #[⟨"Cursor", 50, 0, true, "", "", 0⟩]), 4, 40, some (.agg [(sb []), (ip 0), (ip 0), (ip 0)]), true, false, false, []⟩ := by kernel_rfl
theorem ty86 : ctx.ty.get 86 = some ⟨86, (.struct #[⟨"Cursor", 50, 0, true, "", "", 0⟩]), 4, 40, some (.agg [(sb []), (ip 0), (ip 0), (ip 0)]), true, false, false, []⟩ := by kernel_rfl
theorem ty87 : ctx.ty.get 87 = some ⟨87, (.tuple #[3, 23]), 1, 0, none, false, false, false, []⟩ := by kernel_rfl
theorem ty88 : ctx.ty.get 88 = some ⟨88, (.func #[33] #[3, 23] false), 1, 8, some .nilFunc, false, false, false, []⟩ := by kernel_rfl
theorem ty89 : ctx.ty.get 89 = some ⟨89, (.tuple #[3, 3]), 1, 0, none, false, false, false, []⟩ := by kernel_rfl
theorem ty90 : ctx.ty.get 90 = some ⟨90, (.func #[33] #[3, 3] false), 1, 8, some .nilFunc, false, false, false, []⟩ := by kernel_rfl
theorem ty91 : ctx.ty.get 91 = some ⟨91, (.tuple #[46, 46]), 1, 0, none, false, false, false, []⟩ := by kernel_rfl
theorem ty92 : ctx.ty.get 92 = some ⟨92, (.func #[46, 46] #[46, 46] false), 1, 8, some .nilFunc, false, false, false, []⟩ := by kernel_rfl
theorem ty93 : ctx.ty.get 93 = some ⟨93, (.pointer 95), 1, 8, some .nilptr, true, false, false, [⟨"Grow", 96, #[], some (43, true)⟩, ⟨"Len", 101, #[], some (45, true)⟩, ⟨"Reset", 1, #[], some (271, true)⟩, ⟨"String", 102, #[], some (46, true)⟩, ⟨"WriteString", 100, #[], some (44, true)⟩, ⟨"strings.copyCheck", 1, #[], some (60, true)⟩, ⟨"strings.grow", 96, #[], some (61, true)⟩]⟩ := by kernel_rfl
theorem ty94 : ctx.ty.get 94 = some ⟨94, (.struct #[⟨"addr", 93, 0, false, "", "strings", 0⟩, ⟨"buf", 79, 1, false, "", "strings", 8⟩]), 2, 32, some (.agg [.nilptr, .nilslice]), false, false, false, []⟩ := by kernel_rfl
theorem ty95 : ctx.ty.get 95 = some ⟨95, (.struct #[⟨"addr", 93, 0, false, "", "strings", 0⟩, ⟨"buf", 79, 1, false, "", "strings", 8⟩]), 2, 32, some (.agg [.nilptr, .nilslice]), false, false, false, []⟩ := by kernel_rfl
theorem ty96 : ctx.ty.get 96 = some ⟨96, (.func #[3] #[] false), 1, 8, some .nilFunc, false, false, false, []⟩ := by kernel_rfl
theorem ty97 : ctx.ty.get 97 = some ⟨97, (.interface #[("Error", 102)]), 1, 16, some .nilIface, true, false, true, []⟩ := by kernel_rfl
theorem ty98 : ctx.ty.get 98 = some ⟨98, (.interface #[("Error", 102)]), 1, 16, some .nilIface, true, false, true, []⟩ := by kernel_rfl
theorem ty99 : ctx.ty.get 99 = some ⟨99, (.tuple #[3, 98]), 1, 0, none, false, false, false, []⟩ := by kernel_rfl
theorem ty100 : ctx.ty.get 100 = some ⟨100, (.func #[9] #[3, 98] false), 1, 8, some .nilFunc, false, false, false, []⟩ := by kernel_rfl
theorem ty101 : ctx.ty.get 101 = some ⟨101, (.func #[] #[3] false), 1, 8, some .nilFunc, false, false, false, []⟩ := by kernel_rfl
theorem ty102 : ctx.ty.get 102 = some ⟨102, (.func #[] #[9] false), 1, 8, some .nilFunc, false, false, false, []⟩ := by kernel_rfl
theorem ty103 : ctx.ty.get 103 = some ⟨103, (.tuple #[33, 23]), 1, 0, none, false, false, false, []⟩ := by kernel_rfl
theorem ty104 : ctx.ty.get 104 = some ⟨104, (.func #[33] #[33, 23] false), 1, 8, some .nilFunc, false, false, false, []⟩ := by kernel_rfl
theorem ty105 : ctx.ty.get 105 = some ⟨105, (.func #[33, 9, 3] #[9, 23] false), 1, 8, some .nilFunc, false, false, false, []⟩ := by kernel_rfl
theorem ty106 : ctx.ty.get 106 = some ⟨106, (.tuple #[9, 3, 23]), 1, 0, none, false, false, false, []⟩ := by kernel_rfl
theorem ty107 : ctx.ty.get 107 = some ⟨107, (.func #[33, 9, 3] #[9, 3, 23] false), 1, 8, some .nilFunc, false, false, false, []⟩ := by kernel_rfl
theorem ty108 : ctx.ty.get 108 = some ⟨108, (.func #[9, 33] #[23] false), 1, 8, some .nilFunc, false, false, false, []⟩ := by kernel_rfl
theorem ty109 : ctx.ty.get 109 = some ⟨109, (.struct #[⟨"section", 9, 0, false, "", "cheesepress/lits", 0⟩, ⟨"lengths", 33, 1, false, "", "cheesepress/lits", 16⟩]), 2, 40, some (.agg [(sb []), .nilslice]), false, false, false, []⟩ := by kernel_rfl
theorem ty110 : ctx.ty.get 110 = some ⟨110, (.struct #[⟨"section", 9, 0, false, "", "cheesepress/lits", 0⟩, ⟨"lengths", 33, 1, false, "", "cheesepress/lits", 16⟩]), 2, 40, some (.agg [(sb []), .nilslice]), false, false, false, []⟩ := by kernel_rfl
theorem ty111 : ctx.ty.get 111 = some ⟨111, (.tuple #[39, 110]), 1, 0, none, false, false, false, []⟩ := by kernel_rfl
theorem ty112 : ctx.ty.get 112 = some ⟨112, (.func #[9, 33] #[39, 110] false), 1, 8, some .nilFunc, false, false, false, []⟩ := by kernel_rfl
theorem ty113 : ctx.ty.get 113 = some ⟨113, (.func #[47, 3] #[9] false), 1, 8, some .nilFunc, false, false, false, []⟩ := by kernel_rfl
theorem ty114 : ctx.ty.get 114 = some ⟨114, (.func #[50] #[4] false), 1, 8, some .nilFunc, false, false, false, []⟩ := by kernel_rfl
theorem ty115 : ctx.ty.get 115 = some ⟨115, (.int .u32), 1, 4, some (.int .u32 (.ofNat 0)), true, false, false, []⟩ := by kernel_rfl
theorem ty116 : ctx.ty.get 116 = some ⟨116, (.tuple #[115, 115]), 1, 0, none, false, false, false, []⟩ := by kernel_rfl
theorem ty117 : ctx.ty.get 117 = some ⟨117, (.func #[115, 115] #[115, 115] false), 1, 8, some .nilFunc, false, false, false, []⟩ := by kernel_rfl
theorem ty118 : ctx.ty.get 118 = some ⟨118, (.tuple #[47, 47]), 1, 0, none, false, false, false, []⟩ := by kernel_rfl
theorem ty119 : ctx.ty.get 119 = some ⟨119, (.func #[47, 47] #[47, 47] false), 1, 8, some .nilFunc, false, false, false, []⟩ := by kernel_rfl
theorem ty120 : ctx.ty.get 120 = some ⟨120, (.pointer 5), 1, 8, some .nilptr, true, false, false, []⟩ := by kernel_rfl
theorem ty121 : ctx.ty.get 121 = some ⟨121, (.tuple #[33, 27]), 1, 0, none, false, false, false, []⟩ := by kernel_rfl
theorem ty122 : ctx.ty.get 122 = some ⟨122, (.func #[9] #[33, 27] false), 1, 8, some .nilFunc, false, false, false, []⟩ := by kernel_rfl
theorem ty123 : ctx.ty.get 123 = some ⟨123, (.tuple #[3, 3, 23]), 1, 0, none, false, false, false, []⟩ := by kernel_rfl
theorem ty124 : ctx.ty.get 124 = some ⟨124, (.func #[33] #[3, 3, 23] false), 1, 8, some .nilFunc, false, false, false, []⟩ := by kernel_rfl
theorem ty125 : ctx.ty.get 125 = some ⟨125, (.func #[33, 3] #[33] false), 1, 8, some .nilFunc, false, false, false, []⟩ := by kernel_rfl
theorem ty126 : ctx.ty.get 126 = some ⟨126, (.func #[33, 3] #[23] false), 1, 8, some .nilFunc, false, false, false, []⟩ := by kernel_rfl
theorem ty127 : ctx.ty.get 127 = some ⟨127, (.array 4 3), 4, 32, some (.agg [(ip 0), (ip 0), (ip 0), (ip 0)]), true, false, false, []⟩ := by kernel_rfl
theorem ty128 : ctx.ty.get 128 = some ⟨128, (.func #[3] #[127] false), 1, 8, some .nilFunc, false, false, false, []⟩ := by kernel_rfl
theorem ty129 : ctx.ty.get 129 = some ⟨129, (.func #[168] #[] false), 1, 8, some .nilFunc, false, false, false, []⟩ := by kernel_rfl
theorem ty130 : ctx.ty.get 130 = some ⟨130, (.func #[168] #[] false), 1, 8, some .nilFunc, false, false, false, []⟩ := by kernel_rfl
theorem ty131 : ctx.ty.get 131 = some ⟨131, (.func #[9, 127] #[130] false), 1, 8, some .nilFunc, false, false, false, []⟩ := by kernel_rfl
theorem ty132 : ctx.ty.get 132 = some ⟨132, (.func #[9] #[4] false), 1, 8, some .nilFunc, false, false, false, []⟩ := by kernel_rfl
theorem ty133 : ctx.ty.get 133 = some ⟨133, (.func #[169] #[] false), 1, 8, some .nilFunc, false, false, false, []⟩ := by kernel_rfl
theorem ty136 : ctx.ty.get 136 = some ⟨136, (.func #[3] #[4] false), 1, 8, some .nilFunc, false, false, false, []⟩ := by kernel_rfl
theorem ty190 : ctx.ty.get 190 = some ⟨190, (.struct #[⟨"BackReader", 156, 0, true, "", "", 0⟩, ⟨"cells", 188, 2, false, "", "cheesepress/fse", 24⟩, ⟨"log", 3, 3, false, "", "cheesepress/fse", 48⟩]), 4, 56, some (.agg [(sb []), (ip 0), .nilslice, (ip 0)]), false, false, false, []⟩ := by kernel_rfl
theorem ty195 : ctx.ty.get 195 = some ⟨195, (.func #[156, 3] #[47, 23] false), 1, 8, some .nilFunc, false, false, false, []⟩ := by kernel_rfl
theorem ty256 : ctx.ty.get 256 = some ⟨256, (.interface #[("Unwrap", 258)]), 1, 16, some .nilIface, true, false, true, []⟩ := by kernel_rfl

end Go.Proofs.YtamddelaigcnkaaGreat

namespace Go.Proofs.YtamddelaigcnkaaGreat
open Go.Sim

/- cheesepress/cheesepresslaw25.LitsHeads -/
def b3 : Code :=
 (.seq
  (.region 0 ⟨[O1 (some 10) 4 (.assign (.const (.bool false)))]⟩ false)
  (.seq
   (.seq
    (.region 1 ⟨[O1 (some 27) 9 (.move (t 3)),
      O1 (some 28) 3 (.call ⟨(.builtin .len), #[(t 27)], #[9]⟩),
      O1 (some 29) 4 (.binOp .gtr 3 (t 28) (ci 60) 3)]⟩ false)
    (.cond (t 29)
     (.seq
      (.region 2 ⟨[O1 (some 30) 4 (.call ⟨(.value (.func 5)), #[], #[]⟩),
        O1 (some 10) 4 (.assign (t 30))]⟩ false)
      .ret)
     .skip))
   (.seq
    (.region 3 ⟨[O1 (some 32) 3 (.move (t 0)),
      O1 (some 33) 3 (.move (t 1)),
      O1 (some 34) 3 (.move (t 2)),
      O1 (some 35) 24 (.call ⟨(.value (.func 6)), #[(t 32), (t 33), (t 34)], #[3, 3, 3]⟩),
      O1 (some 31) 24 (.move (t 35)),
      O1 (some 36) 9 (.extract (t 31) 0),
      O1 (some 37) 23 (.extract (t 31) 1),
      O1 (some 11) 9 (.assign (t 36)),
      O1 (some 12) 23 (.assign (t 37))]⟩ false)
    (.seq
     (.region 4 ⟨[O1 (some 39) 3 (.move (t 0)),
       O1 (some 40) 3 (.move (t 1)),
       O1 (some 41) 3 (.move (t 2)),
       O1 (some 42) 24 (.call ⟨(.value (.func 7)), #[(t 39), (t 40), (t 41)], #[3, 3, 3]⟩),
       O1 (some 38) 24 (.move (t 42)),
       O1 (some 43) 9 (.extract (t 38) 0),
       O1 (some 44) 23 (.extract (t 38) 1),
       O1 (some 13) 9 (.assign (t 43)),
       O1 (some 14) 23 (.assign (t 44))]⟩ false)
     (.seq
      (.region 5 ⟨[O1 (some 46) 9 (.move (t 3)),
        O1 (some 47) 3 (.move (t 4)),
        O1 (some 48) 28 (.call ⟨(.value (.func 8)), #[(t 46), (t 47)], #[9, 3]⟩),
        O1 (some 45) 28 (.move (t 48)),
        O1 (some 49) 3 (.extract (t 45) 0),
        O1 (some 50) 3 (.extract (t 45) 1),
        O1 (some 51) 3 (.extract (t 45) 2),
        O1 (some 52) 3 (.extract (t 45) 3),
        O1 (some 53) 3 (.extract (t 45) 4),
        O1 (some 54) 27 (.extract (t 45) 5),
        O1 (some 20) 0 (.alloc 27),
        O1 (some 15) 3 (.assign (t 49)),
        O1 (some 16) 3 (.assign (t 50)),
        O1 (some 17) 3 (.assign (t 51)),
        O1 (some 18) 3 (.assign (t 52)),
        O1 (some 19) 3 (.assign (t 53)),
        O1 none 0 (.store 27 (t 20) (t 54))]⟩ false)
      (.seq
       (.region 6 ⟨[O1 (some 56) 9 (.move (t 3)),
         O1 (some 57) 3 (.move (t 4)),
         O1 (some 58) 28 (.call ⟨(.value (.func 9)), #[(t 56), (t 57)], #[9, 3]⟩),
         O1 (some 55) 28 (.move (t 58)),
         O1 (some 59) 3 (.extract (t 55) 0),
         O1 (some 60) 3 (.extract (t 55) 1),
         O1 (some 61) 3 (.extract (t 55) 2),
         O1 (some 62) 3 (.extract (t 55) 3),
         O1 (some 63) 3 (.extract (t 55) 4),
         O1 (some 64) 27 (.extract (t 55) 5),
         O1 (some 26) 0 (.alloc 27),
         O1 (some 21) 3 (.assign (t 59)),
         O1 (some 22) 3 (.assign (t 60)),
         O1 (some 23) 3 (.assign (t 61)),
         O1 (some 24) 3 (.assign (t 62)),
         O1 (some 25) 3 (.assign (t 63)),
         O1 none 0 (.store 27 (t 26) (t 64))]⟩ false)
       (.seq
        (.region 7 ⟨[O1 (some 65) 9 (.move (t 11)),
          O1 (some 66) 9 (.move (t 13)),
          O1 (some 67) 4 (.binOp .eql 9 (t 65) (t 66) 9),
          O1 (some 68) 4 (.move (t 67)),
          O2 (some 69) 23 (.move (t 12)) (3, true),
          O2 (some 70) 23 (.move (t 14)) (3, true),
          O2 (some 71) 4 (.binOp .eql 23 (t 69) (t 70) 23) (3, true),
          O1 (some 72) 4 (.pick (t 68) (t 71) (.const (.bool false))),
          O1 (some 73) 4 (.move (t 72)),
          O2 (some 74) 3 (.move (t 15)) (8, true),
          O2 (some 75) 3 (.move (t 21)) (8, true),
          O2 (some 76) 4 (.binOp .eql 3 (t 74) (t 75) 3) (8, true),
          O1 (some 77) 4 (.pick (t 73) (t 76) (.const (.bool false))),
          O1 (some 78) 4 (.move (t 77)),
          O2 (some 79) 3 (.move (t 16)) (13, true),
          O2 (some 80) 3 (.move (t 22)) (13, true),
          O2 (some 81) 4 (.binOp .eql 3 (t 79) (t 80) 3) (13, true),
          O1 (some 82) 4 (.pick (t 78) (t 81) (.const (.bool false))),
          O1 (some 83) 4 (.move (t 82)),
          O2 (some 84) 3 (.move (t 17)) (18, true),
          O2 (some 85) 3 (.move (t 23)) (18, true),
          O2 (some 86) 4 (.binOp .eql 3 (t 84) (t 85) 3) (18, true),
          O1 (some 87) 4 (.pick (t 83) (t 86) (.const (.bool false))),
          O1 (some 88) 4 (.move (t 87)),
          O2 (some 89) 3 (.move (t 18)) (23, true),
          O2 (some 90) 3 (.move (t 24)) (23, true),
          O2 (some 91) 4 (.binOp .eql 3 (t 89) (t 90) 3) (23, true),
          O1 (some 92) 4 (.pick (t 88) (t 91) (.const (.bool false))),
          O1 (some 93) 4 (.move (t 92)),
          O2 (some 94) 3 (.move (t 19)) (28, true),
          O2 (some 95) 3 (.move (t 25)) (28, true),
          O2 (some 96) 4 (.binOp .eql 3 (t 94) (t 95) 3) (28, true),
          O1 (some 97) 4 (.pick (t 93) (t 96) (.const (.bool false))),
          O1 (some 98) 4 (.move (t 97)),
          O2 (some 99) 27 (.load 27 (t 20)) (33, true),
          O2 (some 100) 27 (.load 27 (t 26)) (33, true),
          O2 (some 101) 4 (.binOp .eql 27 (t 99) (t 100) 27) (33, true),
          O1 (some 102) 4 (.pick (t 98) (t 101) (.const (.bool false))),
          O1 (some 103) 4 (.move (t 102)),
          O2 (some 104) 4 (.call ⟨(.value (.func 5)), #[], #[]⟩) (38, true),
          O1 (some 105) 4 (.pick (t 103) (t 104) (.const (.bool false))),
          O1 (some 10) 4 (.assign (t 105))]⟩ false)
        .ret)))))))
theorem fn3 : (ctx.fn.get 3).map slimF = some ⟨106, [.tmp 10], b3⟩ := by kernel_rfl
theorem vb3 (a0 : Int) (a1 : Int) (a2 : Int) (a3 : List UInt8) (a4 : Int) (h : H) (Q : V → H → Prop) : wpC Tryz.prog ctx false b3 ⟨106, setArgs [(.int .i64 a0), (.int .i64 a1), (.int .i64 a2), (.str a3), (.int .i64 a4)] 0 (Tb.leaf undefV), [], h⟩ (endW ctx ⟨106, [.tmp 10], b3⟩ Q) = ((((60 : Int) < (Int.ofNat (List.length a3)) → RF Tryz.prog ctx 5 [] h (fun v0 h1 => ∃ (b2 : Bool), v0 = (.bool b2) ∧ ((b2 = true → Q (.bool true) h1) ∧ (b2 = false → Q (.bool false) h1)))) ∧ (¬((60 : Int) < (Int.ofNat (List.length a3))) → RF Tryz.prog ctx 6 [(.int .i64 a0), (.int .i64 a1), (.int .i64 a2)] h (fun v3 h4 => ∃ (l5 : List UInt8) (x6 : Int), v3 = (.tuple [(.str l5), (.int .i64 x6)]) ∧ RF Tryz.prog ctx 7 [(.int .i64 a0), (.int .i64 a1), (.int .i64 a2)] h4 (fun v7 h8 => ∃ (l9 : List UInt8) (x10 : Int), v7 = (.tuple [(.str l9), (.int .i64 x10)]) ∧ RF Tryz.prog ctx 8 [(.str a3), (.int .i64 a4)] h8 (fun v11 h12 => ∃ (x13 : Int) (x14 : Int) (x15 : Int) (x16 : Int) (x17 : Int) (x18 : Int) (x19 : Int), v11 = (.tuple [(.int .i64 x13), (.int .i64 x14), (.int .i64 x15), (.int .i64 x16), (.int .i64 x17), (.agg [(.int .i64 x18), (.int .i64 x19)])]) ∧ (h12.next < T.top ∧ ∀ p20 h21, p20 = h12.next → h21 = h12.new (.cells (.ls [(.int .i64 (0 : Int)), (.int .i64 (0 : Int))]) ⟨0, 28, 0⟩ true false) → ∃ h22, ast ctx 27 h21 (.ptr p20 0) (.agg [(.int .i64 x18), (.int .i64 x19)]) = some h22 ∧ RF Tryz.prog ctx 9 [(.str a3), (.int .i64 a4)] h22 (fun v23 h24 => ∃ (x25 : Int) (x26 : Int) (x27 : Int) (x28 : Int) (x29 : Int) (x30 : Int) (x31 : Int), v23 = (.tuple [(.int .i64 x25), (.int .i64 x26), (.int .i64 x27), (.int .i64 x28), (.int .i64 x29), (.agg [(.int .i64 x30), (.int .i64 x31)])]) ∧ (h24.next < T.top ∧ ∀ p32 h33, p32 = h24.next → h33 = h24.new (.cells (.ls [(.int .i64 (0 : Int)), (.int .i64 (0 : Int))]) ⟨0, 28, 0⟩ true false) → ∃ h34, ast ctx 27 h33 (.ptr p32 0) (.agg [(.int .i64 x30), (.int .i64 x31)]) = some h34 ∧ ((l5 = l9 → ((x6 = x10 → ((x13 = x25 → ((x14 = x26 → ((x15 = x27 → ((x16 = x28 → ((x17 = x29 → ∃ (x35 : Int) (x36 : Int), ald ctx 27 h34 (.ptr p20 0) = some (.agg [(.int .i64 x35), (.int .i64 x36)]) ∧ ∃ (x37 : Int) (x38 : Int), ald ctx 27 h34 (.ptr p32 0) = some (.agg [(.int .i64 x37), (.int .i64 x38)]) ∧ ∃ (b39 : Bool), abin ctx .eql 27 (t 99) (t 100) (.agg [(.int .i64 x35), (.int .i64 x36)]) (.agg [(.int .i64 x37), (.int .i64 x38)]) = some (.bool b39) ∧ ((b39 = true → RF Tryz.prog ctx 5 [] h34 (fun v40 h41 => ∃ (b42 : Bool), v40 = (.bool b42) ∧ ((b42 = true → Q (.bool true) h41) ∧ (b42 = false → Q (.bool false) h41)))) ∧ (b39 = false → Q (.bool false) h34))) ∧ (¬(x17 = x29) → Q (.bool false) h34))) ∧ (¬(x16 = x28) → Q (.bool false) h34))) ∧ (¬(x15 = x27) → Q (.bool false) h34))) ∧ (¬(x14 = x26) → Q (.bool false) h34))) ∧ (¬(x13 = x25) → Q (.bool false) h34))) ∧ (¬(x6 = x10) → Q (.bool false) h34))) ∧ (¬(l5 = l9) → Q (.bool false) h34))))))))))) := by kernel_rfl

/- cheesepress/lits.ReadHead -/
def b8 : Code :=
 (.seq
  (.region 0 ⟨[O1 (some 4) 3 (.assign (ci 0)),
    O1 (some 5) 3 (.assign (ci 0)),
    O1 (some 6) 3 (.assign (ci 0)),
    O1 (some 7) 3 (.assign (ci 0)),
    O1 (some 8) 3 (.assign (ci 0)),
    O1 (some 9) 0 (.alloc 27)]⟩ false)
  (.seq
   (.seq
    (.region 1 ⟨[O1 (some 15) 3 (.move (t 1)),
      O1 (some 16) 4 (.binOp .lss 3 (t 15) (ci 0) 3),
      O1 (some 17) 4 (.move (t 16)),
      O2 (some 18) 3 (.move (t 1)) (2, false),
      O2 (some 19) 9 (.move (t 0)) (2, false),
      O2 (some 20) 3 (.call ⟨(.builtin .len), #[(t 19)], #[9]⟩) (2, false),
      O2 (some 21) 4 (.binOp .gtr 3 (t 18) (t 20) 3) (2, false),
      O1 (some 22) 4 (.pick (t 17) (.const (.bool true)) (t 21))]⟩ false)
    (.cond (t 22)
     (.seq
      (.region 2 ⟨[O1 (some 23) 27 (.build 27 #[(0, (ci 2))]),
        O1 (some 4) 3 (.assign (ci 0)),
        O1 (some 5) 3 (.assign (ci 0)),
        O1 (some 6) 3 (.assign (ci 0)),
        O1 (some 7) 3 (.assign (ci 0)),
        O1 (some 8) 3 (.assign (ci 0)),
        O1 none 0 (.store 27 (t 9) (t 23))]⟩ false)
      .ret)
     .skip))
   (.seq
    (.region 3 ⟨[O1 (some 25) 9 (.move (t 0)),
      O1 (some 26) 3 (.move (t 1)),
      O1 (some 27) 50 (.call ⟨(.value (.func 20)), #[(t 25), (t 26)], #[9, 3]⟩),
      O1 (some 28) 51 (.call ⟨(.value (.func 19)), #[(t 27)], #[50]⟩),
      O1 (some 24) 51 (.move (t 28)),
      O1 (some 29) 50 (.extract (t 24) 0),
      O1 (some 30) 3 (.extract (t 24) 1),
      O1 (some 10) 0 (.alloc 50),
      O1 none 0 (.store 50 (t 10) (t 29)),
      O1 (some 11) 3 (.assign (t 30))]⟩ false)
    (.seq
     (.region 4 ⟨[O1 (some 31) 3 (.move (t 11)),
       O1 (some 32) 3 (.binOp .and 3 (t 31) (ci 3) 3),
       O1 (some 12) 39 (.assign (t 32))]⟩ false)
     (.seq
      (.region 5 ⟨[O1 (some 33) 39 (.move (t 12)),
        O1 (some 34) 56 (.call ⟨(.value (.func 21)), #[(t 33)], #[39]⟩),
        O1 (some 35) 3 (.move (t 11)),
        O1 (some 36) 3 (.binOp .shr 3 (t 35) (.const (.int .u64 (.ofNat 2))) 46),
        O1 (some 37) 3 (.binOp .and 3 (t 36) (ci 3) 3),
        O1 (some 38) 55 (.index 56 (t 34) (t 37)),
        O1 (some 13) 0 (.alloc 55),
        O1 none 0 (.store 55 (t 13) (t 38))]⟩ false)
      (.seq
       (.region 6 #[⟨(some 40), .move (t 0), 9, "lits.go:190", #[], none⟩,
         ⟨(some 41), .move (t 1), 3, "lits.go:190", #[], none⟩,
         ⟨(some 42), .call ⟨(.value (.func 20)), #[(t 40), (t 41)], #[9, 3]⟩, 50, "lits.go:190", #[⟨0, .data⟩, ⟨1, .data⟩], none⟩,
         ⟨(some 43), .fieldAddr 55 (t 13) 0, 0, "lits.go:190", #[], none⟩,
         ⟨(some 44), .load 3 (t 43), 3, "lits.go:190", #[⟨3, .data⟩], none⟩,
         ⟨(some 45), .call ⟨(.value (.func 22)), #[(t 42), (t 44)], #[50, 3]⟩, 58, "lits.go:190", #[⟨2, .data⟩, ⟨4, .data⟩, ⟨2, .chain⟩], none⟩,
         ⟨(some 39), .move (t 45), 58, "lits.go:190", #[⟨5, .data⟩], none⟩,
         ⟨(some 46), .extract (t 39) 0, 50, "lits.go:190", #[⟨6, .data⟩], none⟩,
         ⟨(some 47), .extract (t 39) 1, 47, "lits.go:190", #[⟨6, .data⟩, ⟨9, .gcOnly .lateStores⟩], none⟩,
         ⟨none, .store 50 (t 10) (t 46), 0, "lits.go:190", #[⟨7, .data⟩, ⟨5, .chain⟩, ⟨0, .phase⟩, ⟨1, .phase⟩, ⟨2, .phase⟩, ⟨3, .phase⟩, ⟨4, .phase⟩, ⟨5, .phase⟩, ⟨6, .phase⟩, ⟨7, .phase⟩, ⟨8, .textOnly .lateStores⟩], none⟩,
         ⟨(some 14), .assign (t 47), 47, "lits.go:190", #[⟨8, .data⟩, ⟨9, .chain⟩, ⟨0, .phase⟩, ⟨1, .phase⟩, ⟨2, .phase⟩, ⟨3, .phase⟩, ⟨4, .phase⟩, ⟨5, .phase⟩, ⟨6, .phase⟩, ⟨7, .phase⟩, ⟨8, .phase⟩, ⟨9, .phase⟩], none⟩] true)
       (.seq
        (.seq
         (.region 7 ⟨[O1 (some 48) 0 (.fieldAddr 50 (t 10) 2),
           O1 (some 49) 0 (.fieldAddr 27 (t 48) 0),
           O1 (some 50) 23 (.load 23 (t 49)),
           O1 (some 51) 4 (.binOp .neq 23 (t 50) (ci 0) 23)]⟩ false)
         (.cond (t 51)
          (.seq
           (.region 8 ⟨[O1 (some 52) 3 (.move (t 1)),
             O1 (some 53) 27 (.build 27 #[(0, (ci 20)), (1, (t 52))]),
             O1 (some 4) 3 (.assign (ci 0)),
             O1 (some 5) 3 (.assign (ci 0)),
             O1 (some 6) 3 (.assign (ci 0)),
             O1 (some 7) 3 (.assign (ci 0)),
             O1 (some 8) 3 (.assign (ci 0)),
             O1 none 0 (.store 27 (t 9) (t 53))]⟩ false)
           .ret)
          .skip))
        (.seq
         (.region 9 ⟨[O1 (some 54) 47 (.move (t 14)),
           O1 (some 55) 0 (.fieldAddr 55 (t 13) 1),
           O1 (some 56) 3 (.load 3 (t 55)),
           O1 (some 57) 47 (.binOp .shr 47 (t 54) (t 56) 3),
           O1 (some 14) 47 (.assign (t 57))]⟩ false)
         (.seq
          (.region 10 #[⟨(some 58), .move (t 12), 39, "lits.go:195", #[], none⟩,
            ⟨(some 59), .fieldAddr 55 (t 13) 4, 0, "lits.go:195", #[⟨23, .gcOnly .lateStores⟩], none⟩,
            ⟨(some 60), .load 3 (t 59), 3, "lits.go:195", #[⟨1, .data⟩, ⟨23, .gcOnly .lateStores⟩], none⟩,
            ⟨(some 61), .move (t 14), 47, "lits.go:195", #[⟨24, .gcOnly .lateStores⟩], none⟩,
            ⟨(some 62), .fieldAddr 55 (t 13) 2, 0, "lits.go:195", #[⟨24, .gcOnly .lateStores⟩], none⟩,
            ⟨(some 63), .load 3 (t 62), 3, "lits.go:195", #[⟨4, .data⟩, ⟨24, .gcOnly .lateStores⟩], none⟩,
            ⟨(some 64), .binOp .shl 47 (.const (.int .u64 (.ofNat 1))) (t 63) 3, 47, "lits.go:195", #[⟨5, .data⟩, ⟨24, .gcOnly .lateStores⟩], none⟩,
            ⟨(some 65), .binOp .sub 47 (t 64) (.const (.int .u64 (.ofNat 1))) 47, 47, "lits.go:195", #[⟨6, .data⟩, ⟨24, .gcOnly .lateStores⟩], none⟩,
            ⟨(some 66), .binOp .and 47 (t 61) (t 65) 47, 47, "lits.go:195", #[⟨3, .data⟩, ⟨7, .data⟩, ⟨24, .gcOnly .lateStores⟩], none⟩,
            ⟨(some 67), .convert 47 3 (t 66), 3, "lits.go:195", #[⟨8, .data⟩, ⟨24, .gcOnly .lateStores⟩], none⟩,
            ⟨(some 68), .move (t 14), 47, "lits.go:195", #[⟨25, .gcOnly .lateStores⟩], none⟩,
            ⟨(some 69), .fieldAddr 55 (t 13) 2, 0, "lits.go:195", #[⟨25, .gcOnly .lateStores⟩], none⟩,
            ⟨(some 70), .load 3 (t 69), 3, "lits.go:195", #[⟨11, .data⟩, ⟨25, .gcOnly .lateStores⟩], none⟩,
            ⟨(some 71), .binOp .shr 47 (t 68) (t 70) 3, 47, "lits.go:195", #[⟨10, .data⟩, ⟨12, .data⟩, ⟨25, .gcOnly .lateStores⟩], none⟩,
            ⟨(some 72), .fieldAddr 55 (t 13) 3, 0, "lits.go:195", #[⟨25, .gcOnly .lateStores⟩], none⟩,
            ⟨(some 73), .load 3 (t 72), 3, "lits.go:195", #[⟨14, .data⟩, ⟨25, .gcOnly .lateStores⟩], none⟩,
            ⟨(some 74), .binOp .shl 47 (.const (.int .u64 (.ofNat 1))) (t 73) 3, 47, "lits.go:195", #[⟨15, .data⟩, ⟨25, .gcOnly .lateStores⟩], none⟩,
            ⟨(some 75), .binOp .sub 47 (t 74) (.const (.int .u64 (.ofNat 1))) 47, 47, "lits.go:195", #[⟨16, .data⟩, ⟨25, .gcOnly .lateStores⟩], none⟩,
            ⟨(some 76), .binOp .and 47 (t 71) (t 75) 47, 47, "lits.go:195", #[⟨13, .data⟩, ⟨17, .data⟩, ⟨25, .gcOnly .lateStores⟩], none⟩,
            ⟨(some 77), .convert 47 3 (t 76), 3, "lits.go:195", #[⟨18, .data⟩, ⟨25, .gcOnly .lateStores⟩], none⟩,
            ⟨(some 78), .fieldAddr 50 (t 10) 1, 0, "lits.go:195", #[⟨26, .gcOnly .lateStores⟩], none⟩,
            ⟨(some 79), .load 3 (t 78), 3, "lits.go:195", #[⟨20, .data⟩, ⟨26, .gcOnly .lateStores⟩], none⟩,
            ⟨(some 80), .build 27 #[], 27, "lits.go:195", #[⟨27, .gcOnly .lateStores⟩], none⟩,
            ⟨(some 4), .assign (t 58), 3, "lits.go:195", #[⟨0, .data⟩, ⟨0, .phase⟩, ⟨1, .textOnly .lateStores⟩, ⟨2, .textOnly .lateStores⟩, ⟨3, .textOnly .lateStores⟩, ⟨4, .textOnly .lateStores⟩, ⟨5, .textOnly .lateStores⟩, ⟨6, .textOnly .lateStores⟩, ⟨7, .textOnly .lateStores⟩, ⟨8, .textOnly .lateStores⟩, ⟨9, .textOnly .lateStores⟩, ⟨10, .textOnly .lateStores⟩, ⟨11, .textOnly .lateStores⟩, ⟨12, .textOnly .lateStores⟩, ⟨13, .textOnly .lateStores⟩, ⟨14, .textOnly .lateStores⟩, ⟨15, .textOnly .lateStores⟩, ⟨16, .textOnly .lateStores⟩, ⟨17, .textOnly .lateStores⟩, ⟨18, .textOnly .lateStores⟩, ⟨19, .textOnly .lateStores⟩, ⟨20, .textOnly .lateStores⟩, ⟨21, .textOnly .lateStores⟩, ⟨22, .textOnly .lateStores⟩], none⟩,
            ⟨(some 5), .assign (t 60), 3, "lits.go:195", #[⟨2, .data⟩, ⟨23, .chain⟩, ⟨0, .phase⟩, ⟨1, .phase⟩, ⟨2, .phase⟩, ⟨3, .textOnly .lateStores⟩, ⟨4, .textOnly .lateStores⟩, ⟨5, .textOnly .lateStores⟩, ⟨6, .textOnly .lateStores⟩, ⟨7, .textOnly .lateStores⟩, ⟨8, .textOnly .lateStores⟩, ⟨9, .textOnly .lateStores⟩, ⟨10, .textOnly .lateStores⟩, ⟨11, .textOnly .lateStores⟩, ⟨12, .textOnly .lateStores⟩, ⟨13, .textOnly .lateStores⟩, ⟨14, .textOnly .lateStores⟩, ⟨15, .textOnly .lateStores⟩, ⟨16, .textOnly .lateStores⟩, ⟨17, .textOnly .lateStores⟩, ⟨18, .textOnly .lateStores⟩, ⟨19, .textOnly .lateStores⟩, ⟨20, .textOnly .lateStores⟩, ⟨21, .textOnly .lateStores⟩, ⟨22, .textOnly .lateStores⟩, ⟨23, .phase⟩], none⟩,
            ⟨(some 6), .assign (t 67), 3, "lits.go:195", #[⟨9, .data⟩, ⟨24, .chain⟩, ⟨0, .phase⟩, ⟨1, .phase⟩, ⟨2, .phase⟩, ⟨3, .phase⟩, ⟨4, .phase⟩, ⟨5, .phase⟩, ⟨6, .phase⟩, ⟨7, .phase⟩, ⟨8, .phase⟩, ⟨9, .phase⟩, ⟨10, .textOnly .lateStores⟩, ⟨11, .textOnly .lateStores⟩, ⟨12, .textOnly .lateStores⟩, ⟨13, .textOnly .lateStores⟩, ⟨14, .textOnly .lateStores⟩, ⟨15, .textOnly .lateStores⟩, ⟨16, .textOnly .lateStores⟩, ⟨17, .textOnly .lateStores⟩, ⟨18, .textOnly .lateStores⟩, ⟨19, .textOnly .lateStores⟩, ⟨20, .textOnly .lateStores⟩, ⟨21, .textOnly .lateStores⟩, ⟨22, .textOnly .lateStores⟩, ⟨23, .phase⟩, ⟨24, .phase⟩], none⟩,
            ⟨(some 7), .assign (t 77), 3, "lits.go:195", #[⟨19, .data⟩, ⟨25, .chain⟩, ⟨0, .phase⟩, ⟨1, .phase⟩, ⟨2, .phase⟩, ⟨3, .phase⟩, ⟨4, .phase⟩, ⟨5, .phase⟩, ⟨6, .phase⟩, ⟨7, .phase⟩, ⟨8, .phase⟩, ⟨9, .phase⟩, ⟨10, .phase⟩, ⟨11, .phase⟩, ⟨12, .phase⟩, ⟨13, .phase⟩, ⟨14, .phase⟩, ⟨15, .phase⟩, ⟨16, .phase⟩, ⟨17, .phase⟩, ⟨18, .phase⟩, ⟨19, .phase⟩, ⟨20, .textOnly .lateStores⟩, ⟨21, .textOnly .lateStores⟩, ⟨22, .textOnly .lateStores⟩, ⟨23, .phase⟩, ⟨24, .phase⟩, ⟨25, .phase⟩], none⟩,
            ⟨(some 8), .assign (t 79), 3, "lits.go:195", #[⟨21, .data⟩, ⟨26, .chain⟩, ⟨0, .phase⟩, ⟨1, .phase⟩, ⟨2, .phase⟩, ⟨3, .phase⟩, ⟨4, .phase⟩, ⟨5, .phase⟩, ⟨6, .phase⟩, ⟨7, .phase⟩, ⟨8, .phase⟩, ⟨9, .phase⟩, ⟨10, .phase⟩, ⟨11, .phase⟩, ⟨12, .phase⟩, ⟨13, .phase⟩, ⟨14, .phase⟩, ⟨15, .phase⟩, ⟨16, .phase⟩, ⟨17, .phase⟩, ⟨18, .phase⟩, ⟨19, .phase⟩, ⟨20, .phase⟩, ⟨21, .phase⟩, ⟨22, .textOnly .lateStores⟩, ⟨23, .phase⟩, ⟨24, .phase⟩, ⟨25, .phase⟩, ⟨26, .phase⟩], none⟩,
            ⟨none, .store 27 (t 9) (t 80), 0, "lits.go:195", #[⟨22, .data⟩, ⟨27, .chain⟩, ⟨0, .phase⟩, ⟨1, .phase⟩, ⟨2, .phase⟩, ⟨3, .phase⟩, ⟨4, .phase⟩, ⟨5, .phase⟩, ⟨6, .phase⟩, ⟨7, .phase⟩, ⟨8, .phase⟩, ⟨9, .phase⟩, ⟨10, .phase⟩, ⟨11, .phase⟩, ⟨12, .phase⟩, ⟨13, .phase⟩, ⟨14, .phase⟩, ⟨15, .phase⟩, ⟨16, .phase⟩, ⟨17, .phase⟩, ⟨18, .phase⟩, ⟨19, .phase⟩, ⟨20, .phase⟩, ⟨21, .phase⟩, ⟨22, .phase⟩, ⟨23, .phase⟩, ⟨24, .phase⟩, ⟨25, .phase⟩, ⟨26, .phase⟩, ⟨27, .phase⟩], none⟩] true)
          .ret)))))))))
theorem fn8 : (ctx.fn.get 8).map slimF = some ⟨81, [.tmp 4, .tmp 5, .tmp 6, .tmp 7, .tmp 8, .cell 9 27], b8⟩ := by kernel_rfl
theorem vb8 (a0 : List UInt8) (a1 : Int) (h : H) (Q : V → H → Prop) : wpC Tryz.prog ctx false b8 ⟨81, setArgs [(.str a0), (.int .i64 a1)] 0 (Tb.leaf undefV), [], h⟩ (endW ctx ⟨81, [.tmp 4, .tmp 5, .tmp 6, .tmp 7, .tmp 8, .cell 9 27], b8⟩ Q) = ((h.next < T.top ∧ ∀ p0 h1, p0 = h.next → h1 = h.new (.cells (.ls [(.int .i64 (0 : Int)), (.int .i64 (0 : Int))]) ⟨0, 28, 0⟩ true false) → ((a1 < (0 : Int) → ∃ h2, ast ctx 27 h1 (.ptr p0 0) (.agg [(.int .i64 (2 : Int)), (.int .i64 (0 : Int))]) = some h2 ∧ (endW ctx ⟨81, [.tmp 4, .tmp 5, .tmp 6, .tmp 7, .tmp 8, .cell 9 27], b8⟩ Q) .ret ⟨81, (Tb.set (Tb.set (Tb.set (Tb.set (Tb.set (Tb.set (Tb.set (Tb.set (Tb.set (Tb.set (Tb.set (Tb.set (Tb.set (Tb.set (Tb.set (Tb.set (Tb.set (Tb.set (Tb.set (Tb.set (Tb.set (Tb.set (Tb.leaf undefV) 0 (.str a0)) 1 (.int .i64 a1)) 4 (.int .i64 (0 : Int))) 5 (.int .i64 (0 : Int))) 6 (.int .i64 (0 : Int))) 7 (.int .i64 (0 : Int))) 8 (.int .i64 (0 : Int))) 9 (.ptr p0 0)) 15 (.int .i64 a1)) 16 (.bool true)) 17 (.bool true)) 18 undefV) 19 undefV) 20 undefV) 21 undefV) 22 (.bool true)) 23 (.agg [(.int .i64 (2 : Int)), (.int .i64 (0 : Int))])) 4 (.int .i64 (0 : Int))) 5 (.int .i64 (0 : Int))) 6 (.int .i64 (0 : Int))) 7 (.int .i64 (0 : Int))) 8 (.int .i64 (0 : Int))), [], h2⟩) ∧ (¬(a1 < (0 : Int)) → (((Int.ofNat (List.length a0)) < a1 → ∃ h3, ast ctx 27 h1 (.ptr p0 0) (.agg [(.int .i64 (2 : Int)), (.int .i64 (0 : Int))]) = some h3 ∧ (endW ctx ⟨81, [.tmp 4, .tmp 5, .tmp 6, .tmp 7, .tmp 8, .cell 9 27], b8⟩ Q) .ret ⟨81, (Tb.set (Tb.set (Tb.set (Tb.set (Tb.set (Tb.set (Tb.set (Tb.set (Tb.set (Tb.set (Tb.set (Tb.set (Tb.set (Tb.set (Tb.set (Tb.set (Tb.set (Tb.set (Tb.set (Tb.set (Tb.set (Tb.set (Tb.leaf undefV) 0 (.str a0)) 1 (.int .i64 a1)) 4 (.int .i64 (0 : Int))) 5 (.int .i64 (0 : Int))) 6 (.int .i64 (0 : Int))) 7 (.int .i64 (0 : Int))) 8 (.int .i64 (0 : Int))) 9 (.ptr p0 0)) 15 (.int .i64 a1)) 16 (.bool false)) 17 (.bool false)) 18 (.int .i64 a1)) 19 (.str a0)) 20 (.int .i64 (Int.ofNat (List.length a0)))) 21 (.bool true)) 22 (.bool true)) 23 (.agg [(.int .i64 (2 : Int)), (.int .i64 (0 : Int))])) 4 (.int .i64 (0 : Int))) 5 (.int .i64 (0 : Int))) 6 (.int .i64 (0 : Int))) 7 (.int .i64 (0 : Int))) 8 (.int .i64 (0 : Int))), [], h3⟩) ∧ (¬((Int.ofNat (List.length a0)) < a1) → RF Tryz.prog ctx 20 [(.str a0), (.int .i64 a1)] h1 (fun v4 h5 => ∃ (l6 : List UInt8) (x7 : Int) (x8 : Int) (x9 : Int), v4 = (.agg [(.str l6), (.int .i64 x7), (.int .i64 x8), (.int .i64 x9)]) ∧ RF Tryz.prog ctx 19 [(.agg [(.str l6), (.int .i64 x7), (.int .i64 x8), (.int .i64 x9)])] h5 (fun v10 h11 => ∃ (l12 : List UInt8) (x13 : Int) (x14 : Int) (x15 : Int) (x16 : Int), v10 = (.tuple [(.agg [(.str l12), (.int .i64 x13), (.int .i64 x14), (.int .i64 x15)]), (.int .i64 x16)]) ∧ (h11.next < T.top ∧ ∀ p17 h18, p17 = h11.next → h18 = h11.new (.cells (.ls [(.str []), (.int .i64 (0 : Int)), (.int .i64 (0 : Int)), (.int .i64 (0 : Int))]) ⟨0, 51, 0⟩ true false) → ∃ h19, ast ctx 50 h18 (.ptr p17 0) (.agg [(.str l12), (.int .i64 x13), (.int .i64 x14), (.int .i64 x15)]) = some h19 ∧ ∃ (x20 : Int), intB .and .i64 x16 (3 : Int) = some (.int .i64 x20) ∧ RF Tryz.prog ctx 21 [(.int .i64 x20)] h19 (fun v21 h22 => ∃ (x23 : Int) (x24 : Int) (x25 : Int) (x26 : Int) (x27 : Int) (x28 : Int) (x29 : Int) (x30 : Int) (x31 : Int) (x32 : Int) (x33 : Int) (x34 : Int) (x35 : Int) (x36 : Int) (x37 : Int) (x38 : Int) (x39 : Int) (x40 : Int) (x41 : Int) (x42 : Int), v21 = (.agg [(.int .i64 x23), (.int .i64 x24), (.int .i64 x25), (.int .i64 x26), (.int .i64 x27), (.int .i64 x28), (.int .i64 x29), (.int .i64 x30), (.int .i64 x31), (.int .i64 x32), (.int .i64 x33), (.int .i64 x34), (.int .i64 x35), (.int .i64 x36), (.int .i64 x37), (.int .i64 x38), (.int .i64 x39), (.int .i64 x40), (.int .i64 x41), (.int .i64 x42)]) ∧ ∃ (x43 : Int), intB .shr .i64 x16 (2 : Int) = some (.int .i64 x43) ∧ ∃ (x44 : Int), intB .and .i64 x43 (3 : Int) = some (.int .i64 x44) ∧ ∃ (x45 : Int) (x46 : Int) (x47 : Int) (x48 : Int) (x49 : Int), aindex ctx 56 (.agg [(.int .i64 x23), (.int .i64 x24), (.int .i64 x25), (.int .i64 x26), (.int .i64 x27), (.int .i64 x28), (.int .i64 x29), (.int .i64 x30), (.int .i64 x31), (.int .i64 x32), (.int .i64 x33), (.int .i64 x34), (.int .i64 x35), (.int .i64 x36), (.int .i64 x37), (.int .i64 x38), (.int .i64 x39), (.int .i64 x40), (.int .i64 x41), (.int .i64 x42)]) (.int .i64 x44) = some (.agg [(.int .i64 x45), (.int .i64 x46), (.int .i64 x47), (.int .i64 x48), (.int .i64 x49)]) ∧ (h22.next < T.top ∧ ∀ p50 h51, p50 = h22.next → h51 = h22.new (.cells (.ls [(.int .i64 (0 : Int)), (.int .i64 (0 : Int)), (.int .i64 (0 : Int)), (.int .i64 (0 : Int)), (.int .i64 (0 : Int))]) ⟨0, 56, 0⟩ true false) → ∃ h52, ast ctx 55 h51 (.ptr p50 0) (.agg [(.int .i64 x45), (.int .i64 x46), (.int .i64 x47), (.int .i64 x48), (.int .i64 x49)]) = some h52 ∧ ((h52.next ≤ T.top ∧ h52.low ≤ T.top) ∧ RF Tryz.prog ctx 20 [(.str a0), (.int .i64 a1)] (topH h52) (fun v53 h54 => ∃ (l55 : List UInt8) (x56 : Int) (x57 : Int) (x58 : Int), v53 = (.agg [(.str l55), (.int .i64 x56), (.int .i64 x57), (.int .i64 x58)]) ∧ ((h52.next ≤ h54.low ∧ h54.next ≤ T.top) ∧ ∀ h59, h59 = lowM h52 h54 → ∃ (x60 : Int), ald ctx 3 h59 (.ptr p50 (0 + 0)) = some (.int .i64 x60) ∧ RF Tryz.prog ctx 22 [(.agg [(.str l55), (.int .i64 x56), (.int .i64 x57), (.int .i64 x58)]), (.int .i64 x60)] (topH h59) (fun v61 h62 => ∃ (l63 : List UInt8) (x64 : Int) (x65 : Int) (x66 : Int) (x67 : Int), v61 = (.tuple [(.agg [(.str l63), (.int .i64 x64), (.int .i64 x65), (.int .i64 x66)]), (.int .u64 x67)]) ∧ (h62.next ≤ T.top ∧ ∀ h68, h68 = lowM h59 h62 → ∃ h69, ast ctx 50 (topH h68) (.ptr p17 0) (.agg [(.str l63), (.int .i64 x64), (.int .i64 x65), (.int .i64 x66)]) = some h69 ∧ (h69.next ≤ T.top ∧ ∀ h70, h70 = lowM h68 h69 → ∃ (x71 : Int), ald ctx 23 h70 (.ptr p17 ((0 + 2) + 0)) = some (.int .i64 x71) ∧ ((x71 ≠ (0 : Int) → ∃ h72, ast ctx 27 h70 (.ptr p0 0) (.agg [(.int .i64 (20 : Int)), (.int .i64 a1)]) = some h72 ∧ (endW ctx ⟨81, [.tmp 4, .tmp 5, .tmp 6, .tmp 7, .tmp 8, .cell 9 27], b8⟩ Q) .ret ⟨81, (Tb.set (Tb.set (Tb.set (Tb.set (Tb.set (Tb.set (Tb.set (Tb.set (Tb.set (Tb.set (Tb.set (Tb.set (Tb.set (Tb.set (Tb.set (Tb.set (Tb.set (Tb.set (Tb.set (Tb.set (Tb.set (Tb.set (Tb.set (Tb.set (Tb.set (Tb.set (Tb.set (Tb.set (Tb.set (Tb.set (Tb.set (Tb.set (Tb.set (Tb.set (Tb.set (Tb.set (Tb.set (Tb.set (Tb.set (Tb.set (Tb.set (Tb.set (Tb.set (Tb.set (Tb.set (Tb.set (Tb.set (Tb.set (Tb.set (Tb.set (Tb.set (Tb.set (Tb.set (Tb.set (Tb.set (Tb.set (Tb.leaf undefV) 0 (.str a0)) 1 (.int .i64 a1)) 4 (.int .i64 (0 : Int))) 5 (.int .i64 (0 : Int))) 6 (.int .i64 (0 : Int))) 7 (.int .i64 (0 : Int))) 8 (.int .i64 (0 : Int))) 9 (.ptr p0 0)) 15 (.int .i64 a1)) 16 (.bool false)) 17 (.bool false)) 18 (.int .i64 a1)) 19 (.str a0)) 20 (.int .i64 (Int.ofNat (List.length a0)))) 21 (.bool false)) 22 (.bool false)) 25 (.str a0)) 26 (.int .i64 a1)) 27 (.agg [(.str l6), (.int .i64 x7), (.int .i64 x8), (.int .i64 x9)])) 28 (.tuple [(.agg [(.str l12), (.int .i64 x13), (.int .i64 x14), (.int .i64 x15)]), (.int .i64 x16)])) 24 (.tuple [(.agg [(.str l12), (.int .i64 x13), (.int .i64 x14), (.int .i64 x15)]), (.int .i64 x16)])) 29 (.agg [(.str l12), (.int .i64 x13), (.int .i64 x14), (.int .i64 x15)])) 30 (.int .i64 x16)) 10 (.ptr p17 0)) 11 (.int .i64 x16)) 31 (.int .i64 x16)) 32 (.int .i64 x20)) 12 (.int .i64 x20)) 33 (.int .i64 x20)) 34 (.agg [(.int .i64 x23), (.int .i64 x24), (.int .i64 x25), (.int .i64 x26), (.int .i64 x27), (.int .i64 x28), (.int .i64 x29), (.int .i64 x30), (.int .i64 x31), (.int .i64 x32), (.int .i64 x33), (.int .i64 x34), (.int .i64 x35), (.int .i64 x36), (.int .i64 x37), (.int .i64 x38), (.int .i64 x39), (.int .i64 x40), (.int .i64 x41), (.int .i64 x42)])) 35 (.int .i64 x16)) 36 (.int .i64 x43)) 37 (.int .i64 x44)) 38 (.agg [(.int .i64 x45), (.int .i64 x46), (.int .i64 x47), (.int .i64 x48), (.int .i64 x49)])) 13 (.ptr p50 0)) 40 (.str a0)) 41 (.int .i64 a1)) 42 (.agg [(.str l55), (.int .i64 x56), (.int .i64 x57), (.int .i64 x58)])) 43 (.ptr p50 (0 + 0))) 44 (.int .i64 x60)) 45 (.tuple [(.agg [(.str l63), (.int .i64 x64), (.int .i64 x65), (.int .i64 x66)]), (.int .u64 x67)])) 39 (.tuple [(.agg [(.str l63), (.int .i64 x64), (.int .i64 x65), (.int .i64 x66)]), (.int .u64 x67)])) 46 (.agg [(.str l63), (.int .i64 x64), (.int .i64 x65), (.int .i64 x66)])) 47 (.int .u64 x67)) 14 (.int .u64 x67)) 48 (.ptr p17 (0 + 2))) 49 (.ptr p17 ((0 + 2) + 0))) 50 (.int .i64 x71)) 51 (.bool true)) 52 (.int .i64 a1)) 53 (.agg [(.int .i64 (20 : Int)), (.int .i64 a1)])) 4 (.int .i64 (0 : Int))) 5 (.int .i64 (0 : Int))) 6 (.int .i64 (0 : Int))) 7 (.int .i64 (0 : Int))) 8 (.int .i64 (0 : Int))), [], h72⟩) ∧ (¬(x71 ≠ (0 : Int)) → ∃ (x73 : Int), ald ctx 3 h70 (.ptr p50 (0 + 1)) = some (.int .i64 x73) ∧ ∃ (x74 : Int), intB .shr .u64 x67 x73 = some (.int .u64 x74) ∧ ((h70.next ≤ T.top ∧ h70.low ≤ T.top) ∧ ∃ (x75 : Int), ald ctx 3 h70 (.ptr p50 (0 + 4)) = some (.int .i64 x75) ∧ ∃ (x76 : Int), ald ctx 3 h70 (.ptr p50 (0 + 2)) = some (.int .i64 x76) ∧ ∃ (x77 : Int), intB .shl .u64 (1 : Int) x76 = some (.int .u64 x77) ∧ ∃ (x78 : Int), intB .and .u64 x74 (wrapF .u64 (x77 - (1 : Int))) = some (.int .u64 x78) ∧ ∃ (x79 : Int), ald ctx 3 h70 (.ptr p50 (0 + 2)) = some (.int .i64 x79) ∧ ∃ (x80 : Int), intB .shr .u64 x74 x79 = some (.int .u64 x80) ∧ ∃ (x81 : Int), ald ctx 3 h70 (.ptr p50 (0 + 3)) = some (.int .i64 x81) ∧ ∃ (x82 : Int), intB .shl .u64 (1 : Int) x81 = some (.int .u64 x82) ∧ ∃ (x83 : Int), intB .and .u64 x80 (wrapF .u64 (x82 - (1 : Int))) = some (.int .u64 x83) ∧ ∃ (x84 : Int), ald ctx 3 h70 (.ptr p17 (0 + 1)) = some (.int .i64 x84) ∧ ∃ h85, ast ctx 27 h70 (.ptr p0 0) (.agg [(.int .i64 (0 : Int)), (.int .i64 (0 : Int))]) = some h85 ∧ (endW ctx ⟨81, [.tmp 4, .tmp 5, .tmp 6, .tmp 7, .tmp 8, .cell 9 27], b8⟩ Q) .ret ⟨81, (Tb.set (Tb.set (Tb.set (Tb.set (Tb.set (Tb.set (Tb.set (Tb.set (Tb.set (Tb.set (Tb.set (Tb.set (Tb.set (Tb.set (Tb.set (Tb.set (Tb.set (Tb.set (Tb.set (Tb.set (Tb.set (Tb.set (Tb.set (Tb.set (Tb.set (Tb.set (Tb.set (Tb.set (Tb.set (Tb.set (Tb.set (Tb.set (Tb.set (Tb.set (Tb.set (Tb.set (Tb.set (Tb.set (Tb.set (Tb.set (Tb.set (Tb.set (Tb.set (Tb.set (Tb.set (Tb.set (Tb.set (Tb.set (Tb.set (Tb.set (Tb.set (Tb.set (Tb.set (Tb.set (Tb.set (Tb.set (Tb.set (Tb.set (Tb.set (Tb.set (Tb.set (Tb.set (Tb.set (Tb.set (Tb.set (Tb.set (Tb.set (Tb.set (Tb.set (Tb.set (Tb.set (Tb.set (Tb.set (Tb.set (Tb.set (Tb.set (Tb.set (Tb.set (Tb.set (Tb.set (Tb.set (Tb.set (Tb.leaf undefV) 0 (.str a0)) 1 (.int .i64 a1)) 4 (.int .i64 (0 : Int))) 5 (.int .i64 (0 : Int))) 6 (.int .i64 (0 : Int))) 7 (.int .i64 (0 : Int))) 8 (.int .i64 (0 : Int))) 9 (.ptr p0 0)) 15 (.int .i64 a1)) 16 (.bool false)) 17 (.bool false)) 18 (.int .i64 a1)) 19 (.str a0)) 20 (.int .i64 (Int.ofNat (List.length a0)))) 21 (.bool false)) 22 (.bool false)) 25 (.str a0)) 26 (.int .i64 a1)) 27 (.agg [(.str l6), (.int .i64 x7), (.int .i64 x8), (.int .i64 x9)])) 28 (.tuple [(.agg [(.str l12), (.int .i64 x13), (.int .i64 x14), (.int .i64 x15)]), (.int .i64 x16)])) 24 (.tuple [(.agg [(.str l12), (.int .i64 x13), (.int .i64 x14), (.int .i64 x15)]), (.int .i64 x16)])) 29 (.agg [(.str l12), (.int .i64 x13), (.int .i64 x14), (.int .i64 x15)])) 30 (.int .i64 x16)) 10 (.ptr p17 0)) 11 (.int .i64 x16)) 31 (.int .i64 x16)) 32 (.int .i64 x20)) 12 (.int .i64 x20)) 33 (.int .i64 x20)) 34 (.agg [(.int .i64 x23), (.int .i64 x24), (.int .i64 x25), (.int .i64 x26), (.int .i64 x27), (.int .i64 x28), (.int .i64 x29), (.int .i64 x30), (.int .i64 x31), (.int .i64 x32), (.int .i64 x33), (.int .i64 x34), (.int .i64 x35), (.int .i64 x36), (.int .i64 x37), (.int .i64 x38), (.int .i64 x39), (.int .i64 x40), (.int .i64 x41), (.int .i64 x42)])) 35 (.int .i64 x16)) 36 (.int .i64 x43)) 37 (.int .i64 x44)) 38 (.agg [(.int .i64 x45), (.int .i64 x46), (.int .i64 x47), (.int .i64 x48), (.int .i64 x49)])) 13 (.ptr p50 0)) 40 (.str a0)) 41 (.int .i64 a1)) 42 (.agg [(.str l55), (.int .i64 x56), (.int .i64 x57), (.int .i64 x58)])) 43 (.ptr p50 (0 + 0))) 44 (.int .i64 x60)) 45 (.tuple [(.agg [(.str l63), (.int .i64 x64), (.int .i64 x65), (.int .i64 x66)]), (.int .u64 x67)])) 39 (.tuple [(.agg [(.str l63), (.int .i64 x64), (.int .i64 x65), (.int .i64 x66)]), (.int .u64 x67)])) 46 (.agg [(.str l63), (.int .i64 x64), (.int .i64 x65), (.int .i64 x66)])) 47 (.int .u64 x67)) 14 (.int .u64 x67)) 48 (.ptr p17 (0 + 2))) 49 (.ptr p17 ((0 + 2) + 0))) 50 (.int .i64 x71)) 51 (.bool false)) 54 (.int .u64 x67)) 55 (.ptr p50 (0 + 1))) 56 (.int .i64 x73)) 57 (.int .u64 x74)) 14 (.int .u64 x74)) 58 (.int .i64 x20)) 59 (.ptr p50 (0 + 4))) 60 (.int .i64 x75)) 61 (.int .u64 x74)) 62 (.ptr p50 (0 + 2))) 63 (.int .i64 x76)) 64 (.int .u64 x77)) 65 (.int .u64 (wrapF .u64 (x77 - (1 : Int))))) 66 (.int .u64 x78)) 67 (.int .i64 (w64 (x78)))) 68 (.int .u64 x74)) 69 (.ptr p50 (0 + 2))) 70 (.int .i64 x79)) 71 (.int .u64 x80)) 72 (.ptr p50 (0 + 3))) 73 (.int .i64 x81)) 74 (.int .u64 x82)) 75 (.int .u64 (wrapF .u64 (x82 - (1 : Int))))) 76 (.int .u64 x83)) 77 (.int .i64 (w64 (x83)))) 78 (.ptr p17 (0 + 1))) 79 (.int .i64 x84)) 80 (.agg [(.int .i64 (0 : Int)), (.int .i64 (0 : Int))])) 4 (.int .i64 x20)) 5 (.int .i64 x75)) 6 (.int .i64 (w64 (x78)))) 7 (.int .i64 (w64 (x83)))) 8 (.int .i64 x84)), [], h85⟩)))))))))))))))))))) := by kernel_rfl

/- cheesepress/cheesepresskit.Mod -/
def b11 : Code :=
 (.seq
  (.region 0 ⟨[O1 (some 4) 3 (.assign (ci 0))]⟩ false)
  (.seq
   (.seq
    (.region 1 ⟨[O1 (some 5) 3 (.move (t 1)),
      O1 (some 6) 4 (.binOp .lss 3 (t 5) (ci 1) 3)]⟩ false)
    (.cond (t 6)
     (.seq
      (.region 2 ⟨[O1 (some 4) 3 (.assign (ci 0))]⟩ false)
      .ret)
     .skip))
   (.seq
    (.region 3 ⟨[O1 (some 7) 3 (.move (t 0)),
      O1 (some 8) 3 (.move (t 1)),
      O1 (some 9) 3 (.binOp .rem 3 (t 7) (t 8) 3),
      O1 (some 0) 3 (.assign (t 9))]⟩ false)
    (.seq
     (.seq
      (.region 4 ⟨[O1 (some 10) 3 (.move (t 0)),
        O1 (some 11) 4 (.binOp .lss 3 (t 10) (ci 0) 3)]⟩ false)
      (.cond (t 11)
       (.region 5 ⟨[O1 (some 12) 3 (.move (t 0)),
         O1 (some 13) 3 (.move (t 1)),
         O1 (some 14) 3 (.binOp .add 3 (t 12) (t 13) 3),
         O1 (some 0) 3 (.assign (t 14))]⟩ false)
       .skip))
     (.seq
      (.region 6 ⟨[O1 (some 15) 3 (.move (t 0)),
        O1 (some 4) 3 (.assign (t 15))]⟩ false)
      .ret)))))
theorem fn11 : (ctx.fn.get 11).map slimF = some ⟨16, [.tmp 4], b11⟩ := by kernel_rfl
theorem vb11 (a0 : Int) (a1 : Int) (h : H) (Q : V → H → Prop) : wpC Tryz.prog ctx false b11 ⟨16, setArgs [(.int .i64 a0), (.int .i64 a1)] 0 (Tb.leaf undefV), [], h⟩ (endW ctx ⟨16, [.tmp 4], b11⟩ Q) = (((a1 < (1 : Int) → Q (.int .i64 (0 : Int)) h) ∧ (¬(a1 < (1 : Int)) → (a1 ≠ 0 ∧ (((Int.tmod a0 a1) < (0 : Int) → Q (.int .i64 (w64 ((Int.tmod a0 a1) + a1))) h) ∧ (¬((Int.tmod a0 a1) < (0 : Int)) → Q (.int .i64 (Int.tmod a0 a1)) h)))))) := by kernel_rfl

/- cheesepress/lits.head -/
def r16_0 : Code :=
 (.cond (t 24)
  (.seq
   (.region 6 ⟨[O1 (some 25) 0 (.fieldAddr 55 (t 11) 4),
     O1 (some 26) 3 (.load 3 (t 25)),
     O1 (some 27) 4 (.binOp .eql 3 (t 26) (ci 1) 3),
     O1 (some 28) 3 (.move (t 1)),
     O1 (some 29) 4 (.binOp .lss 3 (t 28) (ci 256) 3),
     O1 (some 30) 4 (.binOp .neq 4 (t 27) (t 29) 4)]⟩ false)
   (.cond (t 30)
    (.exit 1)
    .skip))
  .skip)
def r16_1 : Code :=
 (.seq
  (.region 11 ⟨[O1 (some 86) 47 (.move (t 12)),
    O1 (some 87) 0 (.fieldAddr 55 (t 11) 0),
    O1 (some 88) 3 (.load 3 (t 87)),
    O1 (some 89) 24 (.call ⟨(.value (.func 33)), #[(t 86), (t 88)], #[47, 3]⟩),
    O1 (some 85) 24 (.move (t 89)),
    O1 (some 90) 9 (.extract (t 85) 0),
    O1 (some 91) 23 (.extract (t 85) 1),
    O1 (some 8) 9 (.assign (t 90))]⟩ false)
  (.region 12 ⟨[O1 (some 92) 0 (.fieldAddr 55 (t 11) 0),
    O1 (some 93) 3 (.load 3 (t 92)),
    O1 (some 9) 3 (.assign (t 93))]⟩ false))
def r16_2 : Code :=
 (.seq
  (.region 8 #[⟨(some 53), .move (t 0), 39, "lits.go:61", #[], none⟩,
    ⟨(some 54), .convert 39 47 (t 53), 47, "lits.go:61", #[⟨0, .data⟩], none⟩,
    ⟨(some 55), .move (t 10), 3, "lits.go:61", #[], none⟩,
    ⟨(some 56), .convert 3 47 (t 55), 47, "lits.go:61", #[⟨2, .data⟩], none⟩,
    ⟨(some 57), .binOp .shl 47 (t 56) (.const (.int .u64 (.ofNat 2))) 46, 47, "lits.go:61", #[⟨3, .data⟩], none⟩,
    ⟨(some 58), .binOp .or 47 (t 54) (t 57) 47, 47, "lits.go:61", #[⟨1, .data⟩, ⟨4, .data⟩], none⟩,
    ⟨(some 59), .move (t 1), 3, "lits.go:61", #[], none⟩,
    ⟨(some 60), .convert 3 47 (t 59), 47, "lits.go:61", #[⟨6, .data⟩], none⟩,
    ⟨(some 61), .fieldAddr 55 (t 11) 1, 0, "lits.go:61", #[], none⟩,
    ⟨(some 62), .load 3 (t 61), 3, "lits.go:61", #[⟨8, .data⟩], none⟩,
    ⟨(some 63), .binOp .shl 47 (t 60) (t 62) 3, 47, "lits.go:61", #[⟨7, .data⟩, ⟨9, .data⟩], none⟩,
    ⟨(some 64), .binOp .or 47 (t 58) (t 63) 47, 47, "lits.go:61", #[⟨5, .data⟩, ⟨10, .data⟩], none⟩,
    ⟨(some 65), .move (t 2), 3, "lits.go:61", #[], none⟩,
    ⟨(some 66), .convert 3 47 (t 65), 47, "lits.go:61", #[⟨12, .data⟩], none⟩,
    ⟨(some 67), .fieldAddr 55 (t 11) 1, 0, "lits.go:61", #[], none⟩,
    ⟨(some 68), .load 3 (t 67), 3, "lits.go:61", #[⟨14, .data⟩], none⟩,
    ⟨(some 69), .fieldAddr 55 (t 11) 2, 0, "lits.go:61", #[], none⟩,
    ⟨(some 70), .load 3 (t 69), 3, "lits.go:61", #[⟨16, .data⟩], none⟩,
    ⟨(some 71), .binOp .add 3 (t 68) (t 70) 3, 3, "lits.go:61", #[⟨15, .data⟩, ⟨17, .data⟩], none⟩,
    ⟨(some 72), .binOp .shl 47 (t 66) (t 71) 3, 47, "lits.go:61", #[⟨13, .data⟩, ⟨18, .data⟩], none⟩,
    ⟨(some 73), .binOp .or 47 (t 64) (t 72) 47, 47, "lits.go:61", #[⟨11, .data⟩, ⟨19, .data⟩], none⟩,
    ⟨(some 12), .assign (t 73), 47, "lits.go:61", #[⟨20, .data⟩, ⟨0, .phase⟩, ⟨1, .phase⟩, ⟨2, .phase⟩, ⟨3, .phase⟩, ⟨4, .phase⟩, ⟨5, .phase⟩, ⟨6, .phase⟩, ⟨7, .phase⟩, ⟨8, .phase⟩, ⟨9, .phase⟩, ⟨10, .phase⟩, ⟨11, .phase⟩, ⟨12, .phase⟩, ⟨13, .phase⟩, ⟨14, .phase⟩, ⟨15, .phase⟩, ⟨16, .phase⟩, ⟨17, .phase⟩, ⟨18, .phase⟩, ⟨19, .phase⟩, ⟨20, .phase⟩], none⟩] true)
  (.seq
   (.seq
    (.region 9 ⟨[O1 (some 74) 0 (.fieldAddr 55 (t 11) 1),
      O1 (some 75) 3 (.load 3 (t 74)),
      O1 (some 76) 4 (.binOp .eql 3 (t 75) (ci 3) 3)]⟩ false)
    (.cond (t 76)
     (.region 10 ⟨[O1 (some 77) 39 (.move (t 0)),
       O1 (some 78) 47 (.convert 39 47 (t 77)),
       O1 (some 79) 3 (.move (t 1)),
       O1 (some 80) 47 (.convert 3 47 (t 79)),
       O1 (some 81) 0 (.fieldAddr 55 (t 11) 1),
       O1 (some 82) 3 (.load 3 (t 81)),
       O1 (some 83) 47 (.binOp .shl 47 (t 80) (t 82) 3),
       O1 (some 84) 47 (.binOp .or 47 (t 78) (t 83) 47),
       O1 (some 12) 47 (.assign (t 84))]⟩ false)
     .skip))
   r16_1))
def r16_3 : Code :=
 (.seq
  (.seq
   (.region 7 ⟨[O1 (some 31) 3 (.move (t 1)),
     O1 (some 32) 0 (.fieldAddr 55 (t 11) 2),
     O1 (some 33) 3 (.load 3 (t 32)),
     O1 (some 34) 3 (.binOp .shr 3 (t 31) (t 33) 3),
     O1 (some 35) 4 (.binOp .neq 3 (t 34) (ci 0) 3),
     O1 (some 36) 4 (.move (t 35)),
     O2 (some 37) 3 (.move (t 2)) (5, false),
     O2 (some 38) 0 (.fieldAddr 55 (t 11) 3) (5, false),
     O2 (some 39) 3 (.load 3 (t 38)) (5, false),
     O2 (some 40) 3 (.binOp .shr 3 (t 37) (t 39) 3) (5, false),
     O2 (some 41) 4 (.binOp .neq 3 (t 40) (ci 0) 3) (5, false),
     O1 (some 42) 4 (.pick (t 36) (.const (.bool true)) (t 41)),
     O1 (some 43) 4 (.move (t 42)),
     O2 (some 44) 3 (.move (t 9)) (12, false),
     O2 (some 45) 4 (.binOp .gtr 3 (t 44) (ci 0) 3) (12, false),
     O2 (some 46) 4 (.move (t 45)) (12, false),
     O2 (some 47) 0 (.fieldAddr 55 (t 11) 0) (15, true),
     O2 (some 48) 3 (.load 3 (t 47)) (15, true),
     O2 (some 49) 3 (.move (t 9)) (15, true),
     O2 (some 50) 4 (.binOp .geq 3 (t 48) (t 49) 3) (15, true),
     O2 (some 51) 4 (.pick (t 46) (t 50) (.const (.bool false))) (12, false),
     O1 (some 52) 4 (.pick (t 43) (.const (.bool true)) (t 51))]⟩ false)
   (.cond (t 52)
    (.exit 1)
    .skip))
  r16_2)
def r16_4 : Code :=
 (.region 13 ⟨[O1 (some 94) 3 (.binOp .add 3 (t 15) (ci 1) 3),
   O1 (some 15) 3 (.move (t 94))]⟩ false)
def l16_5 : Code :=
 (.seq
  (.region 3 ⟨[O1 (some 16) 0 (.binOp .lss 3 (t 15) (ci 4) 3)]⟩ false)
  (.seq
   (.cond (t 16)
    .skip
    (.exit 0))
   (.seq
    (.block 1
     (.seq
      (.region 4 ⟨[O1 (some 17) 3 (.move (t 15)),
        O1 (some 18) 55 (.index 56 (t 14) (t 15)),
        O1 (some 11) 0 (.alloc 55),
        O1 (some 10) 3 (.assign (t 17)),
        O1 none 0 (.store 55 (t 11) (t 18))]⟩ false)
      (.seq
       (.seq
        (.region 5 ⟨[O1 (some 19) 39 (.move (t 0)),
          O1 (some 20) 4 (.binOp .eql 39 (t 19) (ci 2) 39),
          O1 (some 21) 4 (.move (t 20)),
          O2 (some 22) 39 (.move (t 0)) (2, false),
          O2 (some 23) 4 (.binOp .eql 39 (t 22) (ci 3) 39) (2, false),
          O1 (some 24) 4 (.pick (t 21) (.const (.bool true)) (t 23))]⟩ false)
        r16_0)
       r16_3)))
    r16_4)))
def r16_6 : Code :=
 (.seq
  (.region 14 ⟨[O1 (some 95) 9 (.move (t 8)),
    O1 (some 96) 3 (.move (t 9)),
    O1 (some 97) 4 (.binOp .gtr 3 (t 96) (ci 0) 3),
    O1 (some 6) 9 (.assign (t 95)),
    O1 (some 7) 4 (.assign (t 97))]⟩ false)
  .ret)
def b16 : Code :=
 (.seq
  (.region 0 ⟨[O1 (some 6) 9 (.assign (cs [])),
    O1 (some 7) 4 (.assign (.const (.bool false)))]⟩ false)
  (.seq
   (.region 1 ⟨[O1 (some 8) 9 (.assign (cs [])),
     O1 (some 9) 3 (.assign (ci 0))]⟩ false)
   (.seq
    (.seq
     (.region 2 ⟨[O1 (some 13) 39 (.move (t 0)),
       O1 (some 14) 56 (.call ⟨(.value (.func 21)), #[(t 13)], #[39]⟩),
       O1 (some 15) 3 (.move (ci 0))]⟩ false)
     (.block 0
      (.loop l16_5)))
    r16_6)))
theorem fn16 : (ctx.fn.get 16).map slimF = some ⟨98, [.tmp 6, .tmp 7], b16⟩ := by kernel_rfl
def L16 : List Nat := [6, 7, 24, 11, 1, 12, 0, 10, 2, 9, 15, 14, 8]
abbrev W16 (b : Bool) : Code → St → (AX → St → Prop) → Prop := wpS Tryz.prog ctx L16 4 b
theorem vr16_0 (tm : Tm) (y24 : Bool) (y11 : V) (y1 : Int) (d : List AD) (h : H) (Q : AX → St → Prop) : W16 false r16_0 ⟨98, (Tb.set (Tb.set (Tb.set tm 24 (.bool y24)) 11 y11) 1 (.int .i64 y1)), d, h⟩ (sealQ L16 Q) = (pickB y24 (fun u => match u with | true => wpFA ctx 55 4 h y11 (fun v0 h1 => ∃ (x2 : Int), ald ctx 3 h1 v0 = some (.int .i64 x2) ∧ ((x2 = (1 : Int) → ((y1 < (256 : Int) → ∃ (b3 : Bool), abin ctx .neq 4 (t 27) (t 29) (.bool true) (.bool true) = some (.bool b3) ∧ ((b3 = true → (∀ tm', kp tm' tm 6 → kp tm' tm 7 → getV tm' 24 = (.bool y24) → getV tm' 11 = y11 → getV tm' 1 = (.int .i64 y1) → kp tm' tm 12 → kp tm' tm 0 → kp tm' tm 10 → kp tm' tm 2 → kp tm' tm 9 → kp tm' tm 15 → kp tm' tm 14 → kp tm' tm 8 → Q (.exit 1) ⟨98, tm', d, h1⟩)) ∧ (b3 = false → (∀ tm', kp tm' tm 6 → kp tm' tm 7 → getV tm' 24 = (.bool y24) → getV tm' 11 = y11 → getV tm' 1 = (.int .i64 y1) → kp tm' tm 12 → kp tm' tm 0 → kp tm' tm 10 → kp tm' tm 2 → kp tm' tm 9 → kp tm' tm 15 → kp tm' tm 14 → kp tm' tm 8 → Q .normal ⟨98, tm', d, h1⟩)))) ∧ (¬(y1 < (256 : Int)) → ∃ (b4 : Bool), abin ctx .neq 4 (t 27) (t 29) (.bool true) (.bool false) = some (.bool b4) ∧ ((b4 = true → (∀ tm', kp tm' tm 6 → kp tm' tm 7 → getV tm' 24 = (.bool y24) → getV tm' 11 = y11 → getV tm' 1 = (.int .i64 y1) → kp tm' tm 12 → kp tm' tm 0 → kp tm' tm 10 → kp tm' tm 2 → kp tm' tm 9 → kp tm' tm 15 → kp tm' tm 14 → kp tm' tm 8 → Q (.exit 1) ⟨98, tm', d, h1⟩)) ∧ (b4 = false → (∀ tm', kp tm' tm 6 → kp tm' tm 7 → getV tm' 24 = (.bool y24) → getV tm' 11 = y11 → getV tm' 1 = (.int .i64 y1) → kp tm' tm 12 → kp tm' tm 0 → kp tm' tm 10 → kp tm' tm 2 → kp tm' tm 9 → kp tm' tm 15 → kp tm' tm 14 → kp tm' tm 8 → Q .normal ⟨98, tm', d, h1⟩)))))) ∧ (¬(x2 = (1 : Int)) → ((y1 < (256 : Int) → ∃ (b5 : Bool), abin ctx .neq 4 (t 27) (t 29) (.bool false) (.bool true) = some (.bool b5) ∧ ((b5 = true → (∀ tm', kp tm' tm 6 → kp tm' tm 7 → getV tm' 24 = (.bool y24) → getV tm' 11 = y11 → getV tm' 1 = (.int .i64 y1) → kp tm' tm 12 → kp tm' tm 0 → kp tm' tm 10 → kp tm' tm 2 → kp tm' tm 9 → kp tm' tm 15 → kp tm' tm 14 → kp tm' tm 8 → Q (.exit 1) ⟨98, tm', d, h1⟩)) ∧ (b5 = false → (∀ tm', kp tm' tm 6 → kp tm' tm 7 → getV tm' 24 = (.bool y24) → getV tm' 11 = y11 → getV tm' 1 = (.int .i64 y1) → kp tm' tm 12 → kp tm' tm 0 → kp tm' tm 10 → kp tm' tm 2 → kp tm' tm 9 → kp tm' tm 15 → kp tm' tm 14 → kp tm' tm 8 → Q .normal ⟨98, tm', d, h1⟩)))) ∧ (¬(y1 < (256 : Int)) → ∃ (b6 : Bool), abin ctx .neq 4 (t 27) (t 29) (.bool false) (.bool false) = some (.bool b6) ∧ ((b6 = true → (∀ tm', kp tm' tm 6 → kp tm' tm 7 → getV tm' 24 = (.bool y24) → getV tm' 11 = y11 → getV tm' 1 = (.int .i64 y1) → kp tm' tm 12 → kp tm' tm 0 → kp tm' tm 10 → kp tm' tm 2 → kp tm' tm 9 → kp tm' tm 15 → kp tm' tm 14 → kp tm' tm 8 → Q (.exit 1) ⟨98, tm', d, h1⟩)) ∧ (b6 = false → (∀ tm', kp tm' tm 6 → kp tm' tm 7 → getV tm' 24 = (.bool y24) → getV tm' 11 = y11 → getV tm' 1 = (.int .i64 y1) → kp tm' tm 12 → kp tm' tm 0 → kp tm' tm 10 → kp tm' tm 2 → kp tm' tm 9 → kp tm' tm 15 → kp tm' tm 14 → kp tm' tm 8 → Q .normal ⟨98, tm', d, h1⟩)))))))) | false => (∀ tm', kp tm' tm 6 → kp tm' tm 7 → getV tm' 24 = (.bool y24) → getV tm' 11 = y11 → getV tm' 1 = (.int .i64 y1) → kp tm' tm 12 → kp tm' tm 0 → kp tm' tm 10 → kp tm' tm 2 → kp tm' tm 9 → kp tm' tm 15 → kp tm' tm 14 → kp tm' tm 8 → Q .normal ⟨98, tm', d, h⟩))) := by kernel_rfl
theorem vr16_1 (tm : Tm) (y12 : Int) (y11 : V) (d : List AD) (h : H) (Q : AX → St → Prop) : W16 false r16_1 ⟨98, (Tb.set (Tb.set tm 12 (.int .u64 y12)) 11 y11), d, h⟩ (sealQ L16 Q) = (wpFA ctx 55 0 h y11 (fun v0 h1 => ∃ (x2 : Int), ald ctx 3 h1 v0 = some (.int .i64 x2) ∧ RF Tryz.prog ctx 33 [(.int .u64 y12), (.int .i64 x2)] h1 (fun v3 h4 => ∃ (l5 : List UInt8) (x6 : Int), v3 = (.tuple [(.str l5), (.int .i64 x6)]) ∧ wpFA ctx 55 0 h4 y11 (fun v7 h8 => ∃ (x9 : Int), ald ctx 3 h8 v7 = some (.int .i64 x9) ∧ (∀ tm', kp tm' tm 6 → kp tm' tm 7 → kp tm' tm 24 → getV tm' 11 = y11 → kp tm' tm 1 → getV tm' 12 = (.int .u64 y12) → kp tm' tm 0 → kp tm' tm 10 → kp tm' tm 2 → getV tm' 9 = (.int .i64 x9) → kp tm' tm 15 → kp tm' tm 14 → getV tm' 8 = (.str l5) → Q .normal ⟨98, tm', d, h8⟩))))) := by kernel_rfl
theorem vr16_2 (tm : Tm) (y0 : Int) (y10 : Int) (y1 : Int) (y11 : V) (y2 : Int) (d : List AD) (h : H) (Q : AX → St → Prop) : W16 false r16_2 ⟨98, (Tb.set (Tb.set (Tb.set (Tb.set (Tb.set tm 0 (.int .i64 y0)) 10 (.int .i64 y10)) 1 (.int .i64 y1)) 11 y11) 2 (.int .i64 y2)), d, h⟩ (sealQ L16 Q) = (((h.next ≤ T.top ∧ h.low ≤ T.top) ∧ ∃ (x0 : Int), intB .shl .u64 (wrapF .u64 (y10)) (2 : Int) = some (.int .u64 x0) ∧ ∃ (x1 : Int), intB .or .u64 (wrapF .u64 (y0)) x0 = some (.int .u64 x1) ∧ wpFA ctx 55 1 h y11 (fun v2 h3 => ∃ (x4 : Int), ald ctx 3 h3 v2 = some (.int .i64 x4) ∧ ∃ (x5 : Int), intB .shl .u64 (wrapF .u64 (y1)) x4 = some (.int .u64 x5) ∧ ∃ (x6 : Int), intB .or .u64 x1 x5 = some (.int .u64 x6) ∧ wpFA ctx 55 1 h3 y11 (fun v7 h8 => ∃ (x9 : Int), ald ctx 3 h8 v7 = some (.int .i64 x9) ∧ wpFA ctx 55 2 h8 y11 (fun v10 h11 => ∃ (x12 : Int), ald ctx 3 h11 v10 = some (.int .i64 x12) ∧ ∃ (x13 : Int), intB .shl .u64 (wrapF .u64 (y2)) (w64 (x9 + x12)) = some (.int .u64 x13) ∧ ∃ (x14 : Int), intB .or .u64 x6 x13 = some (.int .u64 x14) ∧ wpFA ctx 55 1 h11 y11 (fun v15 h16 => ∃ (x17 : Int), ald ctx 3 h16 v15 = some (.int .i64 x17) ∧ ((x17 = (3 : Int) → wpFA ctx 55 1 h16 y11 (fun v18 h19 => ∃ (x20 : Int), ald ctx 3 h19 v18 = some (.int .i64 x20) ∧ ∃ (x21 : Int), intB .shl .u64 (wrapF .u64 (y1)) x20 = some (.int .u64 x21) ∧ ∃ (x22 : Int), intB .or .u64 (wrapF .u64 (y0)) x21 = some (.int .u64 x22) ∧ (∀ tm', kp tm' tm 6 → kp tm' tm 7 → kp tm' tm 24 → getV tm' 11 = y11 → getV tm' 1 = (.int .i64 y1) → getV tm' 12 = (.int .u64 x22) → getV tm' 0 = (.int .i64 y0) → getV tm' 10 = (.int .i64 y10) → getV tm' 2 = (.int .i64 y2) → kp tm' tm 9 → kp tm' tm 15 → kp tm' tm 14 → kp tm' tm 8 → W16 false r16_1 ⟨98, tm', d, h19⟩ (sealQ L16 Q)))) ∧ (¬(x17 = (3 : Int)) → (∀ tm', kp tm' tm 6 → kp tm' tm 7 → kp tm' tm 24 → getV tm' 11 = y11 → getV tm' 1 = (.int .i64 y1) → getV tm' 12 = (.int .u64 x14) → getV tm' 0 = (.int .i64 y0) → getV tm' 10 = (.int .i64 y10) → getV tm' 2 = (.int .i64 y2) → kp tm' tm 9 → kp tm' tm 15 → kp tm' tm 14 → kp tm' tm 8 → W16 false r16_1 ⟨98, tm', d, h16⟩ (sealQ L16 Q)))))))))) := by kernel_rfl
theorem vr16_3 (tm : Tm) (y1 : Int) (y11 : V) (y2 : Int) (y9 : Int) (d : List AD) (h : H) (Q : AX → St → Prop) : W16 false r16_3 ⟨98, (Tb.set (Tb.set (Tb.set (Tb.set tm 1 (.int .i64 y1)) 11 y11) 2 (.int .i64 y2)) 9 (.int .i64 y9)), d, h⟩ (sealQ L16 Q) = (wpFA ctx 55 2 h y11 (fun v0 h1 => ∃ (x2 : Int), ald ctx 3 h1 v0 = some (.int .i64 x2) ∧ ∃ (x3 : Int), intB .shr .i64 y1 x2 = some (.int .i64 x3) ∧ ((x3 ≠ (0 : Int) → (∀ tm', kp tm' tm 6 → kp tm' tm 7 → kp tm' tm 24 → getV tm' 11 = y11 → getV tm' 1 = (.int .i64 y1) → kp tm' tm 12 → kp tm' tm 0 → kp tm' tm 10 → getV tm' 2 = (.int .i64 y2) → getV tm' 9 = (.int .i64 y9) → kp tm' tm 15 → kp tm' tm 14 → kp tm' tm 8 → Q (.exit 1) ⟨98, tm', d, h1⟩)) ∧ (¬(x3 ≠ (0 : Int)) → wpFA ctx 55 3 h1 y11 (fun v4 h5 => ∃ (x6 : Int), ald ctx 3 h5 v4 = some (.int .i64 x6) ∧ ∃ (x7 : Int), intB .shr .i64 y2 x6 = some (.int .i64 x7) ∧ ((x7 ≠ (0 : Int) → (∀ tm', kp tm' tm 6 → kp tm' tm 7 → kp tm' tm 24 → getV tm' 11 = y11 → getV tm' 1 = (.int .i64 y1) → kp tm' tm 12 → kp tm' tm 0 → kp tm' tm 10 → getV tm' 2 = (.int .i64 y2) → getV tm' 9 = (.int .i64 y9) → kp tm' tm 15 → kp tm' tm 14 → kp tm' tm 8 → Q (.exit 1) ⟨98, tm', d, h5⟩)) ∧ (¬(x7 ≠ (0 : Int)) → (((0 : Int) < y9 → wpFA ctx 55 0 h5 y11 (fun v8 h9 => ∃ (x10 : Int), ald ctx 3 h9 v8 = some (.int .i64 x10) ∧ ((y9 ≤ x10 → (∀ tm', kp tm' tm 6 → kp tm' tm 7 → kp tm' tm 24 → getV tm' 11 = y11 → getV tm' 1 = (.int .i64 y1) → kp tm' tm 12 → kp tm' tm 0 → kp tm' tm 10 → getV tm' 2 = (.int .i64 y2) → getV tm' 9 = (.int .i64 y9) → kp tm' tm 15 → kp tm' tm 14 → kp tm' tm 8 → Q (.exit 1) ⟨98, tm', d, h9⟩)) ∧ (¬(y9 ≤ x10) → (∀ tm', kp tm' tm 6 → kp tm' tm 7 → kp tm' tm 24 → getV tm' 11 = y11 → getV tm' 1 = (.int .i64 y1) → kp tm' tm 12 → kp tm' tm 0 → kp tm' tm 10 → getV tm' 2 = (.int .i64 y2) → getV tm' 9 = (.int .i64 y9) → kp tm' tm 15 → kp tm' tm 14 → kp tm' tm 8 → W16 false r16_2 ⟨98, tm', d, h9⟩ (sealQ L16 Q)))))) ∧ (¬((0 : Int) < y9) → (∀ tm', kp tm' tm 6 → kp tm' tm 7 → kp tm' tm 24 → getV tm' 11 = y11 → getV tm' 1 = (.int .i64 y1) → kp tm' tm 12 → kp tm' tm 0 → kp tm' tm 10 → getV tm' 2 = (.int .i64 y2) → getV tm' 9 = (.int .i64 y9) → kp tm' tm 15 → kp tm' tm 14 → kp tm' tm 8 → W16 false r16_2 ⟨98, tm', d, h5⟩ (sealQ L16 Q))))))))))) := by kernel_rfl
theorem vr16_4 (tm : Tm) (y15 : Int) (d : List AD) (h : H) (Q : AX → St → Prop) : W16 false r16_4 ⟨98, (Tb.set tm 15 (.int .i64 y15)), d, h⟩ (sealQ L16 Q) = ((∀ tm', kp tm' tm 6 → kp tm' tm 7 → kp tm' tm 24 → kp tm' tm 11 → kp tm' tm 1 → kp tm' tm 12 → kp tm' tm 0 → kp tm' tm 10 → kp tm' tm 2 → kp tm' tm 9 → getV tm' 15 = (.int .i64 (w64 (y15 + (1 : Int)))) → kp tm' tm 14 → kp tm' tm 8 → Q .normal ⟨98, tm', d, h⟩)) := by kernel_rfl
theorem vl16_5 (tm : Tm) (y15 : Int) (y14_0 : Int) (y14_1 : Int) (y14_2 : Int) (y14_3 : Int) (y14_4 : Int) (y14_5 : Int) (y14_6 : Int) (y14_7 : Int) (y14_8 : Int) (y14_9 : Int) (y14_10 : Int) (y14_11 : Int) (y14_12 : Int) (y14_13 : Int) (y14_14 : Int) (y14_15 : Int) (y14_16 : Int) (y14_17 : Int) (y14_18 : Int) (y14_19 : Int) (y0 : Int) (d : List AD) (h : H) (Q : AX → St → Prop) : W16 false l16_5 ⟨98, (Tb.set (Tb.set (Tb.set tm 15 (.int .i64 y15)) 14 (.agg [(.int .i64 y14_0), (.int .i64 y14_1), (.int .i64 y14_2), (.int .i64 y14_3), (.int .i64 y14_4), (.int .i64 y14_5), (.int .i64 y14_6), (.int .i64 y14_7), (.int .i64 y14_8), (.int .i64 y14_9), (.int .i64 y14_10), (.int .i64 y14_11), (.int .i64 y14_12), (.int .i64 y14_13), (.int .i64 y14_14), (.int .i64 y14_15), (.int .i64 y14_16), (.int .i64 y14_17), (.int .i64 y14_18), (.int .i64 y14_19)])) 0 (.int .i64 y0)), d, h⟩ (sealQ L16 Q) = (((y15 < (4 : Int) → ∃ (x0 : Int) (x1 : Int) (x2 : Int) (x3 : Int) (x4 : Int), aindex ctx 56 (.agg [(.int .i64 y14_0), (.int .i64 y14_1), (.int .i64 y14_2), (.int .i64 y14_3), (.int .i64 y14_4), (.int .i64 y14_5), (.int .i64 y14_6), (.int .i64 y14_7), (.int .i64 y14_8), (.int .i64 y14_9), (.int .i64 y14_10), (.int .i64 y14_11), (.int .i64 y14_12), (.int .i64 y14_13), (.int .i64 y14_14), (.int .i64 y14_15), (.int .i64 y14_16), (.int .i64 y14_17), (.int .i64 y14_18), (.int .i64 y14_19)]) (.int .i64 y15) = some (.agg [(.int .i64 x0), (.int .i64 x1), (.int .i64 x2), (.int .i64 x3), (.int .i64 x4)]) ∧ (h.next < T.top ∧ ∀ p5 h6, p5 = h.next → h6 = h.new (.cells (.ls [(.int .i64 (0 : Int)), (.int .i64 (0 : Int)), (.int .i64 (0 : Int)), (.int .i64 (0 : Int)), (.int .i64 (0 : Int))]) ⟨0, 56, 0⟩ true false) → ∃ h7, ast ctx 55 h6 (.ptr p5 0) (.agg [(.int .i64 x0), (.int .i64 x1), (.int .i64 x2), (.int .i64 x3), (.int .i64 x4)]) = some h7 ∧ ((y0 = (2 : Int) → (∀ tm', kp tm' tm 6 → kp tm' tm 7 → getV tm' 24 = (.bool true) → getV tm' 11 = (.ptr p5 0) → kp tm' tm 1 → kp tm' tm 12 → getV tm' 0 = (.int .i64 y0) → getV tm' 10 = (.int .i64 y15) → kp tm' tm 2 → kp tm' tm 9 → getV tm' 15 = (.int .i64 y15) → getV tm' 14 = (.agg [(.int .i64 y14_0), (.int .i64 y14_1), (.int .i64 y14_2), (.int .i64 y14_3), (.int .i64 y14_4), (.int .i64 y14_5), (.int .i64 y14_6), (.int .i64 y14_7), (.int .i64 y14_8), (.int .i64 y14_9), (.int .i64 y14_10), (.int .i64 y14_11), (.int .i64 y14_12), (.int .i64 y14_13), (.int .i64 y14_14), (.int .i64 y14_15), (.int .i64 y14_16), (.int .i64 y14_17), (.int .i64 y14_18), (.int .i64 y14_19)]) → kp tm' tm 8 → W16 false r16_0 ⟨98, tm', d, h7⟩ (thenC (sealK L16 fun s1 => W16 false r16_3 s1 (fun e s1 => (thenC (fun s1 => W16 false r16_4 s1 (sealQ L16 Q)) (sealQ L16 Q)) (exitB 1 e) s1)) (fun e s1 => (thenC (fun s1 => W16 false r16_4 s1 (sealQ L16 Q)) (sealQ L16 Q)) (exitB 1 e) s1)))) ∧ (¬(y0 = (2 : Int)) → ((y0 = (3 : Int) → (∀ tm', kp tm' tm 6 → kp tm' tm 7 → getV tm' 24 = (.bool true) → getV tm' 11 = (.ptr p5 0) → kp tm' tm 1 → kp tm' tm 12 → getV tm' 0 = (.int .i64 y0) → getV tm' 10 = (.int .i64 y15) → kp tm' tm 2 → kp tm' tm 9 → getV tm' 15 = (.int .i64 y15) → getV tm' 14 = (.agg [(.int .i64 y14_0), (.int .i64 y14_1), (.int .i64 y14_2), (.int .i64 y14_3), (.int .i64 y14_4), (.int .i64 y14_5), (.int .i64 y14_6), (.int .i64 y14_7), (.int .i64 y14_8), (.int .i64 y14_9), (.int .i64 y14_10), (.int .i64 y14_11), (.int .i64 y14_12), (.int .i64 y14_13), (.int .i64 y14_14), (.int .i64 y14_15), (.int .i64 y14_16), (.int .i64 y14_17), (.int .i64 y14_18), (.int .i64 y14_19)]) → kp tm' tm 8 → W16 false r16_0 ⟨98, tm', d, h7⟩ (thenC (sealK L16 fun s1 => W16 false r16_3 s1 (fun e s1 => (thenC (fun s1 => W16 false r16_4 s1 (sealQ L16 Q)) (sealQ L16 Q)) (exitB 1 e) s1)) (fun e s1 => (thenC (fun s1 => W16 false r16_4 s1 (sealQ L16 Q)) (sealQ L16 Q)) (exitB 1 e) s1)))) ∧ (¬(y0 = (3 : Int)) → (∀ tm', kp tm' tm 6 → kp tm' tm 7 → getV tm' 24 = (.bool false) → getV tm' 11 = (.ptr p5 0) → kp tm' tm 1 → kp tm' tm 12 → getV tm' 0 = (.int .i64 y0) → getV tm' 10 = (.int .i64 y15) → kp tm' tm 2 → kp tm' tm 9 → getV tm' 15 = (.int .i64 y15) → getV tm' 14 = (.agg [(.int .i64 y14_0), (.int .i64 y14_1), (.int .i64 y14_2), (.int .i64 y14_3), (.int .i64 y14_4), (.int .i64 y14_5), (.int .i64 y14_6), (.int .i64 y14_7), (.int .i64 y14_8), (.int .i64 y14_9), (.int .i64 y14_10), (.int .i64 y14_11), (.int .i64 y14_12), (.int .i64 y14_13), (.int .i64 y14_14), (.int .i64 y14_15), (.int .i64 y14_16), (.int .i64 y14_17), (.int .i64 y14_18), (.int .i64 y14_19)]) → kp tm' tm 8 → W16 false r16_0 ⟨98, tm', d, h7⟩ (thenC (sealK L16 fun s1 => W16 false r16_3 s1 (fun e s1 => (thenC (fun s1 => W16 false r16_4 s1 (sealQ L16 Q)) (sealQ L16 Q)) (exitB 1 e) s1)) (fun e s1 => (thenC (fun s1 => W16 false r16_4 s1 (sealQ L16 Q)) (sealQ L16 Q)) (exitB 1 e) s1))))))))) ∧ (¬(y15 < (4 : Int)) → (∀ tm', kp tm' tm 6 → kp tm' tm 7 → kp tm' tm 24 → kp tm' tm 11 → kp tm' tm 1 → kp tm' tm 12 → getV tm' 0 = (.int .i64 y0) → kp tm' tm 10 → kp tm' tm 2 → kp tm' tm 9 → getV tm' 15 = (.int .i64 y15) → getV tm' 14 = (.agg [(.int .i64 y14_0), (.int .i64 y14_1), (.int .i64 y14_2), (.int .i64 y14_3), (.int .i64 y14_4), (.int .i64 y14_5), (.int .i64 y14_6), (.int .i64 y14_7), (.int .i64 y14_8), (.int .i64 y14_9), (.int .i64 y14_10), (.int .i64 y14_11), (.int .i64 y14_12), (.int .i64 y14_13), (.int .i64 y14_14), (.int .i64 y14_15), (.int .i64 y14_16), (.int .i64 y14_17), (.int .i64 y14_18), (.int .i64 y14_19)]) → kp tm' tm 8 → Q (.exit 0) ⟨98, tm', d, h⟩)))) := by kernel_rfl
theorem vr16_6 (tm : Tm) (y8 : List UInt8) (y9 : Int) (d : List AD) (h : H) (Q : AX → St → Prop) : W16 false r16_6 ⟨98, (Tb.set (Tb.set tm 8 (.str y8)) 9 (.int .i64 y9)), d, h⟩ (sealQ L16 Q) = ((((0 : Int) < y9 → (∀ tm', getV tm' 6 = (.str y8) → getV tm' 7 = (.bool true) → kp tm' tm 24 → kp tm' tm 11 → kp tm' tm 1 → kp tm' tm 12 → kp tm' tm 0 → kp tm' tm 10 → kp tm' tm 2 → getV tm' 9 = (.int .i64 y9) → kp tm' tm 15 → kp tm' tm 14 → getV tm' 8 = (.str y8) → Q .ret ⟨98, tm', d, h⟩)) ∧ (¬((0 : Int) < y9) → (∀ tm', getV tm' 6 = (.str y8) → getV tm' 7 = (.bool false) → kp tm' tm 24 → kp tm' tm 11 → kp tm' tm 1 → kp tm' tm 12 → kp tm' tm 0 → kp tm' tm 10 → kp tm' tm 2 → getV tm' 9 = (.int .i64 y9) → kp tm' tm 15 → kp tm' tm 14 → getV tm' 8 = (.str y8) → Q .ret ⟨98, tm', d, h⟩)))) := by kernel_rfl
theorem vb16 (a0 : Int) (a1 : Int) (a2 : Int) (h : H) (Q : V → H → Prop) : W16 false b16 ⟨98, setArgs [(.int .i64 a0), (.int .i64 a1), (.int .i64 a2)] 0 (Tb.leaf undefV), [], h⟩ (endW ctx ⟨98, [.tmp 6, .tmp 7], b16⟩ Q) = (RF Tryz.prog ctx 21 [(.int .i64 a0)] h (fun v0 h1 => ∃ (x2 : Int) (x3 : Int) (x4 : Int) (x5 : Int) (x6 : Int) (x7 : Int) (x8 : Int) (x9 : Int) (x10 : Int) (x11 : Int) (x12 : Int) (x13 : Int) (x14 : Int) (x15 : Int) (x16 : Int) (x17 : Int) (x18 : Int) (x19 : Int) (x20 : Int) (x21 : Int), v0 = (.agg [(.int .i64 x2), (.int .i64 x3), (.int .i64 x4), (.int .i64 x5), (.int .i64 x6), (.int .i64 x7), (.int .i64 x8), (.int .i64 x9), (.int .i64 x10), (.int .i64 x11), (.int .i64 x12), (.int .i64 x13), (.int .i64 x14), (.int .i64 x15), (.int .i64 x16), (.int .i64 x17), (.int .i64 x18), (.int .i64 x19), (.int .i64 x20), (.int .i64 x21)]) ∧ (∀ tm', getV tm' 6 = (.str []) → getV tm' 7 = (.bool false) → kp tm' (Tb.leaf undefV) 24 → kp tm' (Tb.leaf undefV) 11 → getV tm' 1 = (.int .i64 a1) → kp tm' (Tb.leaf undefV) 12 → getV tm' 0 = (.int .i64 a0) → kp tm' (Tb.leaf undefV) 10 → getV tm' 2 = (.int .i64 a2) → getV tm' 9 = (.int .i64 (0 : Int)) → getV tm' 15 = (.int .i64 (0 : Int)) → getV tm' 14 = (.agg [(.int .i64 x2), (.int .i64 x3), (.int .i64 x4), (.int .i64 x5), (.int .i64 x6), (.int .i64 x7), (.int .i64 x8), (.int .i64 x9), (.int .i64 x10), (.int .i64 x11), (.int .i64 x12), (.int .i64 x13), (.int .i64 x14), (.int .i64 x15), (.int .i64 x16), (.int .i64 x17), (.int .i64 x18), (.int .i64 x19), (.int .i64 x20), (.int .i64 x21)]) → getV tm' 8 = (.str []) → wpC Tryz.prog ctx false (.loop l16_5) ⟨98, tm', [], h1⟩ (fun e s1 => (thenC (fun s1 => W16 false r16_6 s1 (endW ctx ⟨98, [.tmp 6, .tmp 7], b16⟩ Q)) (endW ctx ⟨98, [.tmp 6, .tmp 7], b16⟩ Q)) (exitB 0 e) s1)))) := by kernel_rfl

/- cheesepress/cheesepressref01.Read -/
def l23_0 : Code :=
 (.seq
  (.seq
   (.region 7 ⟨[O1 (some 39) 3 (.move (t 10)),
     O1 (some 40) 4 (.binOp .geq 3 (t 39) (ci 0) 3)]⟩ false)
   (.cond (t 40)
    .skip
    (.exit 0)))
  (.seq
   (.block 1
    (.region 9 ⟨[O1 (some 43) 47 (.move (t 9)),
      O1 (some 44) 47 (.binOp .mul 47 (t 43) (.const (.int .u64 (.ofNat 256))) 47),
      O1 (some 45) 9 (.move (t 0)),
      O1 (some 46) 3 (.move (t 1)),
      O1 (some 47) 3 (.move (t 10)),
      O1 (some 48) 3 (.binOp .add 3 (t 46) (t 47) 3),
      O1 (some 49) 5 (.index 9 (t 45) (t 48)),
      O1 (some 50) 47 (.convert 5 47 (t 49)),
      O1 (some 51) 47 (.binOp .add 47 (t 44) (t 50) 47),
      O1 (some 9) 47 (.assign (t 51))]⟩ false))
   (.region 8 ⟨[O1 (some 41) 3 (.move (t 10)),
     O1 (some 42) 3 (.binOp .sub 3 (t 41) (ci 1) 3),
     O1 (some 10) 3 (.assign (t 42))]⟩ false)))
def r23_1 : Code :=
 (.seq
  (.region 10 ⟨[O1 (some 52) 47 (.move (t 9)),
    O1 (some 53) 3 (.move (t 1)),
    O1 (some 54) 3 (.move (t 2)),
    O1 (some 55) 3 (.binOp .add 3 (t 53) (t 54) 3),
    O1 (some 56) 27 (.build 27 #[]),
    O1 (some 6) 47 (.assign (t 52)),
    O1 (some 7) 3 (.assign (t 55)),
    O1 none 0 (.store 27 (t 8) (t 56))]⟩ false)
  .ret)
def b23 : Code :=
 (.seq
  (.region 0 ⟨[O1 (some 6) 47 (.assign (.const (.int .u64 (.ofNat 0)))),
    O1 (some 7) 3 (.assign (ci 0)),
    O1 (some 8) 0 (.alloc 27)]⟩ false)
  (.seq
   (.seq
    (.region 1 ⟨[O1 (some 11) 3 (.move (t 2)),
      O1 (some 12) 4 (.binOp .lss 3 (t 11) (ci 1) 3),
      O1 (some 13) 4 (.move (t 12)),
      O2 (some 14) 3 (.move (t 2)) (2, false),
      O2 (some 15) 4 (.binOp .gtr 3 (t 14) (ci 8) 3) (2, false),
      O1 (some 16) 4 (.pick (t 13) (.const (.bool true)) (t 15)),
      O1 (some 17) 4 (.move (t 16)),
      O2 (some 18) 3 (.move (t 1)) (6, false),
      O2 (some 19) 4 (.binOp .lss 3 (t 18) (ci 0) 3) (6, false),
      O1 (some 20) 4 (.pick (t 17) (.const (.bool true)) (t 19)),
      O1 (some 21) 4 (.move (t 20)),
      O2 (some 22) 3 (.move (t 1)) (10, false),
      O2 (some 23) 9 (.move (t 0)) (10, false),
      O2 (some 24) 3 (.call ⟨(.builtin .len), #[(t 23)], #[9]⟩) (10, false),
      O2 (some 25) 4 (.binOp .gtr 3 (t 22) (t 24) 3) (10, false),
      O1 (some 26) 4 (.pick (t 21) (.const (.bool true)) (t 25))]⟩ false)
    (.cond (t 26)
     (.seq
      (.region 2 ⟨[O1 (some 27) 27 (.build 27 #[(0, (ci 2))]),
        O1 (some 6) 47 (.assign (.const (.int .u64 (.ofNat 0)))),
        O1 (some 7) 3 (.assign (ci 0)),
        O1 none 0 (.store 27 (t 8) (t 27))]⟩ false)
      .ret)
     .skip))
   (.seq
    (.seq
     (.region 3 ⟨[O1 (some 28) 9 (.move (t 0)),
       O1 (some 29) 3 (.call ⟨(.builtin .len), #[(t 28)], #[9]⟩),
       O1 (some 30) 3 (.move (t 1)),
       O1 (some 31) 3 (.binOp .sub 3 (t 29) (t 30) 3),
       O1 (some 32) 3 (.move (t 2)),
       O1 (some 33) 4 (.binOp .lss 3 (t 31) (t 32) 3)]⟩ false)
     (.cond (t 33)
      (.seq
       (.region 4 ⟨[O1 (some 34) 9 (.move (t 0)),
         O1 (some 35) 3 (.call ⟨(.builtin .len), #[(t 34)], #[9]⟩),
         O1 (some 36) 27 (.build 27 #[(0, (ci 5)), (1, (t 35))]),
         O1 (some 6) 47 (.assign (.const (.int .u64 (.ofNat 0)))),
         O1 (some 7) 3 (.assign (ci 0)),
         O1 none 0 (.store 27 (t 8) (t 36))]⟩ false)
       .ret)
      .skip))
    (.seq
     (.region 5 ⟨[O1 (some 9) 47 (.assign (.const (.int .u64 (.ofNat 0))))]⟩ false)
     (.seq
      (.seq
       (.region 6 ⟨[O1 (some 37) 3 (.move (t 2)),
         O1 (some 38) 3 (.binOp .sub 3 (t 37) (ci 1) 3),
         O1 (some 10) 3 (.assign (t 38))]⟩ false)
       (.block 0
        (.loop l23_0)))
      r23_1)))))
theorem fn23 : (ctx.fn.get 23).map slimF = some ⟨57, [.tmp 6, .tmp 7, .cell 8 27], b23⟩ := by kernel_rfl
theorem vl23_0 (tm : Tm) (y10 : Int) (y9 : Int) (y0 : List UInt8) (y1 : Int) (d : List AD) (h : H) (Q : AX → St → Prop) : wpC Tryz.prog ctx false l23_0 ⟨57, (Tb.set (Tb.set (Tb.set (Tb.set tm 10 (.int .i64 y10)) 9 (.int .u64 y9)) 0 (.str y0)) 1 (.int .i64 y1)), d, h⟩ (sealQ [6, 7, 8, 10, 9, 0, 1, 2] Q) = ((((0 : Int) ≤ y10 → ∃ (x0 : Int), aindex ctx 9 (.str y0) (.int .i64 (w64 (y1 + y10))) = some (.int .u8 x0) ∧ (∀ tm', getV tm' 6 = getV tm 6 → getV tm' 7 = getV tm 7 → getV tm' 8 = getV tm 8 → getV tm' 10 = (.int .i64 (w64 (y10 - (1 : Int)))) → getV tm' 9 = (.int .u64 (wrapF .u64 ((wrapF .u64 (y9 * (256 : Int))) + (wrapF .u64 (x0))))) → getV tm' 0 = (.str y0) → getV tm' 1 = (.int .i64 y1) → getV tm' 2 = getV tm 2 → Q .normal ⟨57, tm', d, h⟩)) ∧ (¬((0 : Int) ≤ y10) → (∀ tm', getV tm' 6 = getV tm 6 → getV tm' 7 = getV tm 7 → getV tm' 8 = getV tm 8 → getV tm' 10 = (.int .i64 y10) → getV tm' 9 = (.int .u64 y9) → getV tm' 0 = (.str y0) → getV tm' 1 = (.int .i64 y1) → getV tm' 2 = getV tm 2 → Q (.exit 0) ⟨57, tm', d, h⟩)))) := by kernel_rfl
theorem vr23_1 (tm : Tm) (y9 : Int) (y1 : Int) (y2 : Int) (y8 : V) (d : List AD) (h : H) (Q : AX → St → Prop) : wpC Tryz.prog ctx false r23_1 ⟨57, (Tb.set (Tb.set (Tb.set (Tb.set tm 9 (.int .u64 y9)) 1 (.int .i64 y1)) 2 (.int .i64 y2)) 8 y8), d, h⟩ (sealQ [6, 7, 8, 10, 9, 0, 1, 2] Q) = (∃ h0, ast ctx 27 h y8 (.agg [(.int .i64 (0 : Int)), (.int .i64 (0 : Int))]) = some h0 ∧ (∀ tm', getV tm' 6 = (.int .u64 y9) → getV tm' 7 = (.int .i64 (w64 (y1 + y2))) → getV tm' 8 = y8 → getV tm' 10 = getV tm 10 → getV tm' 9 = (.int .u64 y9) → getV tm' 0 = getV tm 0 → getV tm' 1 = (.int .i64 y1) → getV tm' 2 = (.int .i64 y2) → Q .ret ⟨57, tm', d, h0⟩)) := by kernel_rfl
theorem vb23 (a0 : List UInt8) (a1 : Int) (a2 : Int) (h : H) (Q : V → H → Prop) : wpC Tryz.prog ctx false b23 ⟨57, setArgs [(.str a0), (.int .i64 a1), (.int .i64 a2)] 0 (Tb.leaf undefV), [], h⟩ (endW ctx ⟨57, [.tmp 6, .tmp 7, .cell 8 27], b23⟩ Q) = ((h.next < T.top ∧ ∀ p0 h1, p0 = h.next → h1 = h.new (.cells (.ls [(.int .i64 (0 : Int)), (.int .i64 (0 : Int))]) ⟨0, 28, 0⟩ true false) → ((a2 < (1 : Int) → ∃ h2, ast ctx 27 h1 (.ptr p0 0) (.agg [(.int .i64 (2 : Int)), (.int .i64 (0 : Int))]) = some h2 ∧ (endW ctx ⟨57, [.tmp 6, .tmp 7, .cell 8 27], b23⟩ Q) .ret ⟨57, (Tb.set (Tb.set (Tb.set (Tb.set (Tb.set (Tb.set (Tb.set (Tb.set (Tb.set (Tb.set (Tb.set (Tb.set (Tb.set (Tb.set (Tb.set (Tb.set (Tb.set (Tb.set (Tb.set (Tb.set (Tb.set (Tb.set (Tb.set (Tb.set (Tb.set (Tb.leaf undefV) 0 (.str a0)) 1 (.int .i64 a1)) 2 (.int .i64 a2)) 6 (.int .u64 (0 : Int))) 7 (.int .i64 (0 : Int))) 8 (.ptr p0 0)) 11 (.int .i64 a2)) 12 (.bool true)) 13 (.bool true)) 14 undefV) 15 undefV) 16 (.bool true)) 17 (.bool true)) 18 undefV) 19 undefV) 20 (.bool true)) 21 (.bool true)) 22 undefV) 23 undefV) 24 undefV) 25 undefV) 26 (.bool true)) 27 (.agg [(.int .i64 (2 : Int)), (.int .i64 (0 : Int))])) 6 (.int .u64 (0 : Int))) 7 (.int .i64 (0 : Int))), [], h2⟩) ∧ (¬(a2 < (1 : Int)) → (((8 : Int) < a2 → ∃ h3, ast ctx 27 h1 (.ptr p0 0) (.agg [(.int .i64 (2 : Int)), (.int .i64 (0 : Int))]) = some h3 ∧ (endW ctx ⟨57, [.tmp 6, .tmp 7, .cell 8 27], b23⟩ Q) .ret ⟨57, (Tb.set (Tb.set (Tb.set (Tb.set (Tb.set (Tb.set (Tb.set (Tb.set (Tb.set (Tb.set (Tb.set (Tb.set (Tb.set (Tb.set (Tb.set (Tb.set (Tb.set (Tb.set (Tb.set (Tb.set (Tb.set (Tb.set (Tb.set (Tb.set (Tb.set (Tb.leaf undefV) 0 (.str a0)) 1 (.int .i64 a1)) 2 (.int .i64 a2)) 6 (.int .u64 (0 : Int))) 7 (.int .i64 (0 : Int))) 8 (.ptr p0 0)) 11 (.int .i64 a2)) 12 (.bool false)) 13 (.bool false)) 14 (.int .i64 a2)) 15 (.bool true)) 16 (.bool true)) 17 (.bool true)) 18 undefV) 19 undefV) 20 (.bool true)) 21 (.bool true)) 22 undefV) 23 undefV) 24 undefV) 25 undefV) 26 (.bool true)) 27 (.agg [(.int .i64 (2 : Int)), (.int .i64 (0 : Int))])) 6 (.int .u64 (0 : Int))) 7 (.int .i64 (0 : Int))), [], h3⟩) ∧ (¬((8 : Int) < a2) → ((a1 < (0 : Int) → ∃ h4, ast ctx 27 h1 (.ptr p0 0) (.agg [(.int .i64 (2 : Int)), (.int .i64 (0 : Int))]) = some h4 ∧ (endW ctx ⟨57, [.tmp 6, .tmp 7, .cell 8 27], b23⟩ Q) .ret ⟨57, (Tb.set (Tb.set (Tb.set (Tb.set (Tb.set (Tb.set (Tb.set (Tb.set (Tb.set (Tb.set (Tb.set (Tb.set (Tb.set (Tb.set (Tb.set (Tb.set (Tb.set (Tb.set (Tb.set (Tb.set (Tb.set (Tb.set (Tb.set (Tb.set (Tb.set (Tb.leaf undefV) 0 (.str a0)) 1 (.int .i64 a1)) 2 (.int .i64 a2)) 6 (.int .u64 (0 : Int))) 7 (.int .i64 (0 : Int))) 8 (.ptr p0 0)) 11 (.int .i64 a2)) 12 (.bool false)) 13 (.bool false)) 14 (.int .i64 a2)) 15 (.bool false)) 16 (.bool false)) 17 (.bool false)) 18 (.int .i64 a1)) 19 (.bool true)) 20 (.bool true)) 21 (.bool true)) 22 undefV) 23 undefV) 24 undefV) 25 undefV) 26 (.bool true)) 27 (.agg [(.int .i64 (2 : Int)), (.int .i64 (0 : Int))])) 6 (.int .u64 (0 : Int))) 7 (.int .i64 (0 : Int))), [], h4⟩) ∧ (¬(a1 < (0 : Int)) → (((Int.ofNat (List.length a0)) < a1 → ∃ h5, ast ctx 27 h1 (.ptr p0 0) (.agg [(.int .i64 (2 : Int)), (.int .i64 (0 : Int))]) = some h5 ∧ (endW ctx ⟨57, [.tmp 6, .tmp 7, .cell 8 27], b23⟩ Q) .ret ⟨57, (Tb.set (Tb.set (Tb.set (Tb.set (Tb.set (Tb.set (Tb.set (Tb.set (Tb.set (Tb.set (Tb.set (Tb.set (Tb.set (Tb.set (Tb.set (Tb.set (Tb.set (Tb.set (Tb.set (Tb.set (Tb.set (Tb.set (Tb.set (Tb.set (Tb.set (Tb.leaf undefV) 0 (.str a0)) 1 (.int .i64 a1)) 2 (.int .i64 a2)) 6 (.int .u64 (0 : Int))) 7 (.int .i64 (0 : Int))) 8 (.ptr p0 0)) 11 (.int .i64 a2)) 12 (.bool false)) 13 (.bool false)) 14 (.int .i64 a2)) 15 (.bool false)) 16 (.bool false)) 17 (.bool false)) 18 (.int .i64 a1)) 19 (.bool false)) 20 (.bool false)) 21 (.bool false)) 22 (.int .i64 a1)) 23 (.str a0)) 24 (.int .i64 (Int.ofNat (List.length a0)))) 25 (.bool true)) 26 (.bool true)) 27 (.agg [(.int .i64 (2 : Int)), (.int .i64 (0 : Int))])) 6 (.int .u64 (0 : Int))) 7 (.int .i64 (0 : Int))), [], h5⟩) ∧ (¬((Int.ofNat (List.length a0)) < a1) → (((w64 ((Int.ofNat (List.length a0)) - a1)) < a2 → ∃ h6, ast ctx 27 h1 (.ptr p0 0) (.agg [(.int .i64 (5 : Int)), (.int .i64 (Int.ofNat (List.length a0)))]) = some h6 ∧ (endW ctx ⟨57, [.tmp 6, .tmp 7, .cell 8 27], b23⟩ Q) .ret ⟨57, (Tb.set (Tb.set (Tb.set (Tb.set (Tb.set (Tb.set (Tb.set (Tb.set (Tb.set (Tb.set (Tb.set (Tb.set (Tb.set (Tb.set (Tb.set (Tb.set (Tb.set (Tb.set (Tb.set (Tb.set (Tb.set (Tb.set (Tb.set (Tb.set (Tb.set (Tb.set (Tb.set (Tb.set (Tb.set (Tb.set (Tb.set (Tb.set (Tb.set (Tb.leaf undefV) 0 (.str a0)) 1 (.int .i64 a1)) 2 (.int .i64 a2)) 6 (.int .u64 (0 : Int))) 7 (.int .i64 (0 : Int))) 8 (.ptr p0 0)) 11 (.int .i64 a2)) 12 (.bool false)) 13 (.bool false)) 14 (.int .i64 a2)) 15 (.bool false)) 16 (.bool false)) 17 (.bool false)) 18 (.int .i64 a1)) 19 (.bool false)) 20 (.bool false)) 21 (.bool false)) 22 (.int .i64 a1)) 23 (.str a0)) 24 (.int .i64 (Int.ofNat (List.length a0)))) 25 (.bool false)) 26 (.bool false)) 28 (.str a0)) 29 (.int .i64 (Int.ofNat (List.length a0)))) 30 (.int .i64 a1)) 31 (.int .i64 (w64 ((Int.ofNat (List.length a0)) - a1)))) 32 (.int .i64 a2)) 33 (.bool true)) 34 (.str a0)) 35 (.int .i64 (Int.ofNat (List.length a0)))) 36 (.agg [(.int .i64 (5 : Int)), (.int .i64 (Int.ofNat (List.length a0)))])) 6 (.int .u64 (0 : Int))) 7 (.int .i64 (0 : Int))), [], h6⟩) ∧ (¬((w64 ((Int.ofNat (List.length a0)) - a1)) < a2) → wpC Tryz.prog ctx false (.loop l23_0) ⟨57, (Tb.set (Tb.set (Tb.set (Tb.set (Tb.set (Tb.set (Tb.set (Tb.set (Tb.set (Tb.set (Tb.set (Tb.set (Tb.set (Tb.set (Tb.set (Tb.set (Tb.set (Tb.set (Tb.set (Tb.set (Tb.set (Tb.set (Tb.set (Tb.set (Tb.set (Tb.set (Tb.set (Tb.set (Tb.set (Tb.set (Tb.set (Tb.set (Tb.leaf undefV) 0 (.str a0)) 1 (.int .i64 a1)) 2 (.int .i64 a2)) 6 (.int .u64 (0 : Int))) 7 (.int .i64 (0 : Int))) 8 (.ptr p0 0)) 11 (.int .i64 a2)) 12 (.bool false)) 13 (.bool false)) 14 (.int .i64 a2)) 15 (.bool false)) 16 (.bool false)) 17 (.bool false)) 18 (.int .i64 a1)) 19 (.bool false)) 20 (.bool false)) 21 (.bool false)) 22 (.int .i64 a1)) 23 (.str a0)) 24 (.int .i64 (Int.ofNat (List.length a0)))) 25 (.bool false)) 26 (.bool false)) 28 (.str a0)) 29 (.int .i64 (Int.ofNat (List.length a0)))) 30 (.int .i64 a1)) 31 (.int .i64 (w64 ((Int.ofNat (List.length a0)) - a1)))) 32 (.int .i64 a2)) 33 (.bool false)) 9 (.int .u64 (0 : Int))) 37 (.int .i64 a2)) 38 (.int .i64 (w64 (a2 - (1 : Int))))) 10 (.int .i64 (w64 (a2 - (1 : Int))))), [], h1⟩ (fun e s1 => (thenC (fun s1 => wpC Tryz.prog ctx false r23_1 s1 (endW ctx ⟨57, [.tmp 6, .tmp 7, .cell 8 27], b23⟩ Q)) (endW ctx ⟨57, [.tmp 6, .tmp 7, .cell 8 27], b23⟩ Q)) (exitB 0 e) s1))))))))))))) := by kernel_rfl

/- (*cheesepress/cursor.reader).bytes -/
def b37 : Code :=
 (.seq
  (.region 0 ⟨[O1 (some 2) 0 (.box 80 (t 0)),
    O1 (some 4) 9 (.assign (cs []))]⟩ false)
  (.seq
   (.region 1 ⟨[O1 (some 5) 0 (.alloc 27)]⟩ false)
   (.seq
    (.region 2 ⟨[O1 (some 6) 1 (.makeFunc (.func 55) #[] #[(t 5), (t 2)]),
      O1 none 0 (.defer ⟨(.value (t 6)), #[], #[]⟩)]⟩ false)
    (.seq
     (.block 0
      (.seq
       (.region 3 ⟨[O1 (some 8) 80 (.load 80 (t 2)),
         O1 (some 9) 4 (.call ⟨(.value (.func 38)), #[(t 8)], #[80]⟩),
         O1 (some 7) 4 (.assign (t 9))]⟩ false)
       (.cond (t 7)
        (.seq
         (.region 4 ⟨[O1 (some 4) 9 (.assign (cs []))]⟩ false)
         .ret)
        (.seq
         (.region 5 ⟨[O1 (some 11) 3 (.move (t 1)),
           O1 (some 12) 4 (.binOp .lss 3 (t 11) (ci 0) 3),
           O1 (some 10) 4 (.assign (t 12))]⟩ false)
         (.cond (t 10)
          (.seq
           (.region 6 ⟨[O1 (some 13) 80 (.load 80 (t 2)),
             O1 (some 14) 0 (.nilCheck (t 13)),
             O1 (some 15) 0 (.fieldAddr 86 (t 14) 0),
             O1 (some 16) 0 (.fieldAddr 50 (t 15) 1),
             O1 (some 17) 3 (.load 3 (t 16)),
             O1 (some 18) 27 (.build 27 #[(0, (ci 2)), (1, (t 17))]),
             O1 none 0 (.store 27 (t 5) (t 18))]⟩ false)
           (.seq
            (.region 7 ⟨[O1 (some 4) 9 (.assign (cs []))]⟩ false)
            .ret))
          (.seq
           (.region 8 ⟨[O1 (some 20) 3 (.move (t 1)),
             O1 (some 21) 80 (.load 80 (t 2)),
             O1 (some 22) 3 (.call ⟨(.value (.func 56)), #[(t 21)], #[80]⟩),
             O1 (some 23) 4 (.binOp .gtr 3 (t 20) (t 22) 3),
             O1 (some 19) 4 (.assign (t 23))]⟩ false)
           (.cond (t 19)
            (.seq
             (.region 9 ⟨[O1 (some 24) 80 (.load 80 (t 2)),
               O1 (some 25) 0 (.nilCheck (t 24)),
               O1 (some 26) 0 (.fieldAddr 86 (t 25) 0),
               O1 (some 27) 0 (.fieldAddr 50 (t 26) 0),
               O1 (some 28) 9 (.load 9 (t 27)),
               O1 (some 29) 3 (.call ⟨(.builtin .len), #[(t 28)], #[9]⟩),
               O1 (some 30) 27 (.build 27 #[(0, (ci 5)), (1, (t 29))]),
               O1 none 0 (.store 27 (t 5) (t 30))]⟩ false)
             (.seq
              (.region 10 ⟨[O1 (some 4) 9 (.assign (cs []))]⟩ false)
              .ret))
            .skip)))))))
     (.seq
      (.region 11 #[⟨(some 31), .load 80 (t 2), 80, "cursor.go:55", #[], none⟩,
        ⟨(some 32), .nilCheck (t 31), 0, "cursor.go:55", #[⟨0, .data⟩], none⟩,
        ⟨(some 33), .fieldAddr 86 (t 32) 0, 0, "cursor.go:55", #[⟨1, .data⟩], none⟩,
        ⟨(some 34), .fieldAddr 50 (t 33) 0, 0, "cursor.go:55", #[⟨2, .data⟩], none⟩,
        ⟨(some 35), .load 9 (t 34), 9, "cursor.go:55", #[⟨3, .data⟩], none⟩,
        ⟨(some 36), .load 80 (t 2), 80, "cursor.go:55", #[], none⟩,
        ⟨(some 37), .nilCheck (t 36), 0, "cursor.go:55", #[⟨5, .data⟩], none⟩,
        ⟨(some 38), .fieldAddr 86 (t 37) 0, 0, "cursor.go:55", #[⟨6, .data⟩], none⟩,
        ⟨(some 39), .fieldAddr 50 (t 38) 1, 0, "cursor.go:55", #[⟨7, .data⟩], none⟩,
        ⟨(some 40), .load 3 (t 39), 3, "cursor.go:55", #[⟨8, .data⟩], none⟩,
        ⟨(some 41), .load 80 (t 2), 80, "cursor.go:55", #[], none⟩,
        ⟨(some 42), .nilCheck (t 41), 0, "cursor.go:55", #[⟨10, .data⟩], none⟩,
        ⟨(some 43), .fieldAddr 86 (t 42) 0, 0, "cursor.go:55", #[⟨11, .data⟩], none⟩,
        ⟨(some 44), .fieldAddr 50 (t 43) 1, 0, "cursor.go:55", #[⟨12, .data⟩], none⟩,
        ⟨(some 45), .load 3 (t 44), 3, "cursor.go:55", #[⟨13, .data⟩], none⟩,
        ⟨(some 46), .move (t 1), 3, "cursor.go:55", #[], none⟩,
        ⟨(some 47), .binOp .add 3 (t 45) (t 46) 3, 3, "cursor.go:55", #[⟨14, .data⟩, ⟨15, .data⟩], none⟩,
        ⟨(some 48), .slice 9 (t 35) (some (t 40)) (some (t 47)) none, 9, "cursor.go:55", #[⟨4, .data⟩, ⟨9, .data⟩, ⟨16, .data⟩], none⟩,
        ⟨(some 4), .assign (t 48), 9, "cursor.go:55", #[⟨17, .data⟩, ⟨0, .phase⟩, ⟨1, .phase⟩, ⟨2, .phase⟩, ⟨3, .phase⟩, ⟨4, .phase⟩, ⟨5, .phase⟩, ⟨6, .phase⟩, ⟨7, .phase⟩, ⟨8, .phase⟩, ⟨9, .phase⟩, ⟨10, .phase⟩, ⟨11, .phase⟩, ⟨12, .phase⟩, ⟨13, .phase⟩, ⟨14, .phase⟩, ⟨15, .phase⟩, ⟨16, .phase⟩, ⟨17, .phase⟩], none⟩] true)
      (.seq
       (.region 12 ⟨[O1 (some 49) 80 (.load 80 (t 2)),
         O1 (some 50) 0 (.nilCheck (t 49)),
         O1 (some 51) 0 (.fieldAddr 86 (t 50) 0),
         O1 (some 52) 0 (.fieldAddr 50 (t 51) 1),
         O1 (some 53) 3 (.load 3 (t 52)),
         O1 (some 54) 3 (.move (t 1)),
         O1 (some 55) 3 (.binOp .add 3 (t 53) (t 54) 3),
         O1 (some 56) 0 (.nilCheck (t 49)),
         O1 (some 57) 0 (.fieldAddr 86 (t 56) 0),
         O1 (some 58) 0 (.fieldAddr 50 (t 57) 1),
         O1 none 0 (.store 3 (t 58) (t 55))]⟩ false)
       (.seq
        (.region 13 ⟨[O1 (some 59) 9 (.move (t 4)),
          O1 (some 4) 9 (.assign (t 59))]⟩ false)
        .ret)))))))
theorem fn37 : (ctx.fn.get 37).map slimF = some ⟨60, [.tmp 4], b37⟩ := by kernel_rfl
theorem vb37 (a0 : V) (a1 : Int) (h : H) (Q : V → H → Prop) : wpC Tryz.prog ctx false b37 ⟨60, setArgs [a0, (.int .i64 a1)] 0 (Tb.leaf undefV), [], h⟩ (endW1 Tryz.prog ctx ⟨60, [.tmp 4], b37⟩ Q) = ((V.one a0 = true ∧ h.next < T.top ∧ ∀ p0 h1, p0 = h.next → h1 = h.new (.cells (.ls [a0]) ⟨0, 81, 0⟩ true false) → (h1.next < T.top ∧ ∀ p2 h3, p2 = h1.next → h3 = h1.new (.cells (.ls [(.int .i64 (0 : Int)), (.int .i64 (0 : Int))]) ⟨0, 28, 0⟩ true false) → (false = false ∧ ∃ (v4 : V), ald ctx 80 h3 (.ptr p0 0) = some v4 ∧ RF Tryz.prog ctx 38 [v4] h3 (fun v5 h6 => ∃ (b7 : Bool), v5 = (.bool b7) ∧ ((b7 = true → (endW1 Tryz.prog ctx ⟨60, [.tmp 4], b37⟩ Q) .ret ⟨60, (Tb.set (Tb.set (Tb.set (Tb.set (Tb.set (Tb.set (Tb.set (Tb.set (Tb.set (Tb.set (Tb.leaf undefV) 0 a0) 1 (.int .i64 a1)) 2 (.ptr p0 0)) 4 (.str [])) 5 (.ptr p2 0)) 6 (.func (.func 55) [] [(.ptr p2 0), (.ptr p0 0)])) 8 v4) 9 (.bool true)) 7 (.bool true)) 4 (.str [])), ((.fn 55 [(.ptr p2 0), (.ptr p0 0)] []) :: []), h6⟩) ∧ (b7 = false → ((a1 < (0 : Int) → ∃ (v8 : V), ald ctx 80 h6 (.ptr p0 0) = some v8 ∧ ∃ v9 h10, aop ctx ⟨none, .nilCheck (t 0), 0, "", #[], none⟩ (fun _ => some v8) h6 = some (.val v9 h10) ∧ wpFA ctx 86 0 h10 v9 (fun v11 h12 => wpFA ctx 50 1 h12 v11 (fun v13 h14 => ∃ (x15 : Int), ald ctx 3 h14 v13 = some (.int .i64 x15) ∧ ∃ h16, ast ctx 27 h14 (.ptr p2 0) (.agg [(.int .i64 (2 : Int)), (.int .i64 x15)]) = some h16 ∧ (endW1 Tryz.prog ctx ⟨60, [.tmp 4], b37⟩ Q) .ret ⟨60, (Tb.set (Tb.set (Tb.set (Tb.set (Tb.set (Tb.set (Tb.set (Tb.set (Tb.set (Tb.set (Tb.set (Tb.set (Tb.set (Tb.set (Tb.set (Tb.set (Tb.set (Tb.set (Tb.set (Tb.leaf undefV) 0 a0) 1 (.int .i64 a1)) 2 (.ptr p0 0)) 4 (.str [])) 5 (.ptr p2 0)) 6 (.func (.func 55) [] [(.ptr p2 0), (.ptr p0 0)])) 8 v4) 9 (.bool false)) 7 (.bool false)) 11 (.int .i64 a1)) 12 (.bool true)) 10 (.bool true)) 13 v8) 14 v9) 15 v11) 16 v13) 17 (.int .i64 x15)) 18 (.agg [(.int .i64 (2 : Int)), (.int .i64 x15)])) 4 (.str [])), ((.fn 55 [(.ptr p2 0), (.ptr p0 0)] []) :: []), h16⟩))) ∧ (¬(a1 < (0 : Int)) → ∃ (v17 : V), ald ctx 80 h6 (.ptr p0 0) = some v17 ∧ RF Tryz.prog ctx 56 [v17] h6 (fun v18 h19 => ∃ (x20 : Int), v18 = (.int .i64 x20) ∧ ((x20 < a1 → ∃ (v21 : V), ald ctx 80 h19 (.ptr p0 0) = some v21 ∧ ∃ v22 h23, aop ctx ⟨none, .nilCheck (t 0), 0, "", #[], none⟩ (fun _ => some v21) h19 = some (.val v22 h23) ∧ wpFA ctx 86 0 h23 v22 (fun v24 h25 => wpFA ctx 50 0 h25 v24 (fun v26 h27 => ∃ (l28 : List UInt8), ald ctx 9 h27 v26 = some (.str l28) ∧ ∃ h29, ast ctx 27 h27 (.ptr p2 0) (.agg [(.int .i64 (5 : Int)), (.int .i64 (Int.ofNat (List.length l28)))]) = some h29 ∧ (endW1 Tryz.prog ctx ⟨60, [.tmp 4], b37⟩ Q) .ret ⟨60, (Tb.set (Tb.set (Tb.set (Tb.set (Tb.set (Tb.set (Tb.set (Tb.set (Tb.set (Tb.set (Tb.set (Tb.set (Tb.set (Tb.set (Tb.set (Tb.set (Tb.set (Tb.set (Tb.set (Tb.set (Tb.set (Tb.set (Tb.set (Tb.set (Tb.set (Tb.leaf undefV) 0 a0) 1 (.int .i64 a1)) 2 (.ptr p0 0)) 4 (.str [])) 5 (.ptr p2 0)) 6 (.func (.func 55) [] [(.ptr p2 0), (.ptr p0 0)])) 8 v4) 9 (.bool false)) 7 (.bool false)) 11 (.int .i64 a1)) 12 (.bool false)) 10 (.bool false)) 20 (.int .i64 a1)) 21 v17) 22 (.int .i64 x20)) 23 (.bool true)) 19 (.bool true)) 24 v21) 25 v22) 26 v24) 27 v26) 28 (.str l28)) 29 (.int .i64 (Int.ofNat (List.length l28)))) 30 (.agg [(.int .i64 (5 : Int)), (.int .i64 (Int.ofNat (List.length l28)))])) 4 (.str [])), ((.fn 55 [(.ptr p2 0), (.ptr p0 0)] []) :: []), h29⟩))) ∧ (¬(x20 < a1) → ((h19.next ≤ T.top ∧ h19.low ≤ T.top) ∧ ∃ (v30 : V), ald ctx 80 h19 (.ptr p0 0) = some v30 ∧ ∃ v31 h32, aop ctx ⟨none, .nilCheck (t 0), 0, "", #[], none⟩ (fun _ => some v30) (topH h19) = some (.val v31 h32) ∧ ((h19.next ≤ h32.low ∧ h32.next ≤ T.top) ∧ ∀ h33, h33 = lowM h19 h32 → wpFA ctx 86 0 h33 v31 (fun v34 h35 => wpFA ctx 50 0 h35 v34 (fun v36 h37 => ∃ (l38 : List UInt8), ald ctx 9 h37 v36 = some (.str l38) ∧ ∃ (v39 : V), ald ctx 80 h37 (.ptr p0 0) = some v39 ∧ ∃ v40 h41, aop ctx ⟨none, .nilCheck (t 0), 0, "", #[], none⟩ (fun _ => some v39) (topH h37) = some (.val v40 h41) ∧ ((h37.next ≤ h41.low ∧ h41.next ≤ T.top) ∧ ∀ h42, h42 = lowM h37 h41 → wpFA ctx 86 0 h42 v40 (fun v43 h44 => wpFA ctx 50 1 h44 v43 (fun v45 h46 => ∃ (x47 : Int), ald ctx 3 h46 v45 = some (.int .i64 x47) ∧ ∃ (v48 : V), ald ctx 80 h46 (.ptr p0 0) = some v48 ∧ ∃ v49 h50, aop ctx ⟨none, .nilCheck (t 0), 0, "", #[], none⟩ (fun _ => some v48) (topH h46) = some (.val v49 h50) ∧ ((h46.next ≤ h50.low ∧ h50.next ≤ T.top) ∧ ∀ h51, h51 = lowM h46 h50 → wpFA ctx 86 0 h51 v49 (fun v52 h53 => wpFA ctx 50 1 h53 v52 (fun v54 h55 => ∃ (x56 : Int), ald ctx 3 h55 v54 = some (.int .i64 x56) ∧ ∃ (l57 : List UInt8), aslice ctx 9 h55 (.str l38) (some (.int .i64 x47)) (some (.int .i64 (w64 (x56 + a1)))) none = some (.str l57) ∧ ∃ (v58 : V), ald ctx 80 h55 (.ptr p0 0) = some v58 ∧ ∃ v59 h60, aop ctx ⟨none, .nilCheck (t 0), 0, "", #[], none⟩ (fun _ => some v58) h55 = some (.val v59 h60) ∧ wpFA ctx 86 0 h60 v59 (fun v61 h62 => wpFA ctx 50 1 h62 v61 (fun v63 h64 => ∃ (x65 : Int), ald ctx 3 h64 v63 = some (.int .i64 x65) ∧ ∃ v66 h67, aop ctx ⟨none, .nilCheck (t 0), 0, "", #[], none⟩ (fun _ => some v58) h64 = some (.val v66 h67) ∧ wpFA ctx 86 0 h67 v66 (fun v68 h69 => wpFA ctx 50 1 h69 v68 (fun v70 h71 => ∃ h72, ast ctx 3 h71 v70 (.int .i64 (w64 (x65 + a1))) = some h72 ∧ (endW1 Tryz.prog ctx ⟨60, [.tmp 4], b37⟩ Q) .ret ⟨60, (Tb.set (Tb.set (Tb.set (Tb.set (Tb.set (Tb.set (Tb.set (Tb.set (Tb.set (Tb.set (Tb.set (Tb.set (Tb.set (Tb.set (Tb.set (Tb.set (Tb.set (Tb.set (Tb.set (Tb.set (Tb.set (Tb.set (Tb.set (Tb.set (Tb.set (Tb.set (Tb.set (Tb.set (Tb.set (Tb.set (Tb.set (Tb.set (Tb.set (Tb.set (Tb.set (Tb.set (Tb.set (Tb.set (Tb.set (Tb.set (Tb.set (Tb.set (Tb.set (Tb.set (Tb.set (Tb.set (Tb.set (Tb.set (Tb.leaf undefV) 0 a0) 1 (.int .i64 a1)) 2 (.ptr p0 0)) 4 (.str [])) 5 (.ptr p2 0)) 6 (.func (.func 55) [] [(.ptr p2 0), (.ptr p0 0)])) 8 v4) 9 (.bool false)) 7 (.bool false)) 11 (.int .i64 a1)) 12 (.bool false)) 10 (.bool false)) 20 (.int .i64 a1)) 21 v17) 22 (.int .i64 x20)) 23 (.bool false)) 19 (.bool false)) 31 v30) 32 v31) 33 v34) 34 v36) 35 (.str l38)) 36 v39) 37 v40) 38 v43) 39 v45) 40 (.int .i64 x47)) 41 v48) 42 v49) 43 v52) 44 v54) 45 (.int .i64 x56)) 46 (.int .i64 a1)) 47 (.int .i64 (w64 (x56 + a1)))) 48 (.str l57)) 4 (.str l57)) 49 v58) 50 v59) 51 v61) 52 v63) 53 (.int .i64 x65)) 54 (.int .i64 a1)) 55 (.int .i64 (w64 (x65 + a1)))) 56 v66) 57 v68) 58 v70) 59 (.str l57)) 4 (.str l57)), ((.fn 55 [(.ptr p2 0), (.ptr p0 0)] []) :: []), h72⟩)))))))))))))))))))))))))) := by kernel_rfl

end Go.Proofs.YtamddelaigcnkaaGreat

namespace Go.Proofs.YtamddelaigcnkaaGreat
open Go.Sim

/- cheesepress/cheesepresslaw25.LitsShort -/
def r4_0 : Code :=
 (.cond (t 41)
  (.seq
   (.region 12 ⟨[O1 (some 42) 4 (.move (t 7)),
     O1 (some 43) 4 (.move (t 42)),
     O2 (some 44) 23 (.move (t 10)) (1, true),
     O2 (some 45) 4 (.binOp .eql 23 (t 44) (ci 2) 23) (1, true),
     O1 (some 46) 4 (.pick (t 43) (t 45) (.const (.bool false))),
     O1 (some 6) 4 (.assign (t 46))]⟩ false)
   .ret)
  .skip)
def r4_1 : Code :=
 (.cond (t 79)
  (.region 22 ⟨[O1 (some 17) 3 (.assign (ci 4))]⟩ false)
  (.seq
   (.region 23 ⟨[O1 (some 89) 3 (.move (t 8)),
     O1 (some 90) 4 (.binOp .gtr 3 (t 89) (ci 0) 3),
     O1 (some 88) 4 (.assign (t 90))]⟩ false)
   (.cond (t 88)
    (.region 24 ⟨[O1 (some 17) 3 (.assign (ci 3))]⟩ false)
    .skip)))
def r4_2 : Code :=
 (.cond (t 70)
  (.region 20 ⟨[O1 (some 17) 3 (.assign (ci 5))]⟩ false)
  (.seq
   (.region 21 ⟨[O1 (some 80) 3 (.move (t 8)),
     O1 (some 81) 4 (.binOp .gtr 3 (t 80) (ci 0) 3),
     O1 (some 82) 4 (.move (t 81)),
     O2 (some 83) 3 (.move (t 1)) (2, true),
     O2 (some 84) 3 (.move (t 2)) (2, true),
     O2 (some 85) 3 (.call ⟨(.builtin .max), #[(t 83), (t 84)], #[3, 3]⟩) (2, true),
     O2 (some 86) 4 (.binOp .geq 3 (t 85) (ci 1024) 3) (2, true),
     O1 (some 87) 4 (.pick (t 82) (t 86) (.const (.bool false))),
     O1 (some 79) 4 (.assign (t 87))]⟩ false)
   r4_1))
def r4_3 : Code :=
 (.cond (t 63)
  (.region 18 ⟨[O1 (some 17) 3 (.assign (ci 2))]⟩ false)
  (.seq
   (.region 19 ⟨[O1 (some 71) 3 (.move (t 8)),
     O1 (some 72) 4 (.binOp .gtr 3 (t 71) (ci 0) 3),
     O1 (some 73) 4 (.move (t 72)),
     O2 (some 74) 3 (.move (t 1)) (2, true),
     O2 (some 75) 3 (.move (t 2)) (2, true),
     O2 (some 76) 3 (.call ⟨(.builtin .max), #[(t 74), (t 75)], #[3, 3]⟩) (2, true),
     O2 (some 77) 4 (.binOp .geq 3 (t 76) (ci 16384) 3) (2, true),
     O1 (some 78) 4 (.pick (t 73) (t 77) (.const (.bool false))),
     O1 (some 70) 4 (.assign (t 78))]⟩ false)
   r4_2))
def r4_4 : Code :=
 (.cond (t 56)
  (.region 16 ⟨[O1 (some 17) 3 (.assign (ci 3))]⟩ false)
  (.seq
   (.region 17 ⟨[O1 (some 64) 3 (.move (t 8)),
     O1 (some 65) 4 (.binOp .eql 3 (t 64) (ci 0) 3),
     O1 (some 66) 4 (.move (t 65)),
     O2 (some 67) 3 (.move (t 1)) (2, true),
     O2 (some 68) 4 (.binOp .geq 3 (t 67) (ci 32) 3) (2, true),
     O1 (some 69) 4 (.pick (t 66) (t 68) (.const (.bool false))),
     O1 (some 63) 4 (.assign (t 69))]⟩ false)
   r4_3))
def r4_5 : Code :=
 (.seq
  (.region 25 ⟨[O1 (some 91) 4 (.move (t 7)),
    O1 (some 92) 4 (.move (t 91)),
    O2 (some 93) 23 (.move (t 10)) (1, true),
    O2 (some 94) 4 (.binOp .eql 23 (t 93) (ci 0) 23) (1, true),
    O1 (some 95) 4 (.pick (t 92) (t 94) (.const (.bool false))),
    O1 (some 96) 4 (.move (t 95)),
    O2 (some 97) 9 (.move (t 9)) (5, true),
    O2 (some 98) 3 (.call ⟨(.builtin .len), #[(t 97)], #[9]⟩) (5, true),
    O2 (some 99) 3 (.move (t 17)) (5, true),
    O2 (some 100) 4 (.binOp .eql 3 (t 98) (t 99) 3) (5, true),
    O1 (some 101) 4 (.pick (t 96) (t 100) (.const (.bool false))),
    O1 (some 102) 4 (.move (t 101)),
    O2 (some 103) 27 (.load 27 (t 16)) (11, true),
    O2 (some 104) 27 (.build 27 #[]) (11, true),
    O2 (some 105) 4 (.binOp .eql 27 (t 103) (t 104) 27) (11, true),
    O1 (some 106) 4 (.pick (t 102) (t 105) (.const (.bool false))),
    O1 (some 107) 4 (.move (t 106)),
    O2 (some 108) 3 (.move (t 11)) (16, true),
    O2 (some 109) 3 (.move (t 0)) (16, true),
    O2 (some 110) 4 (.binOp .eql 3 (t 108) (t 109) 3) (16, true),
    O1 (some 111) 4 (.pick (t 107) (t 110) (.const (.bool false))),
    O1 (some 112) 4 (.move (t 111)),
    O2 (some 113) 3 (.move (t 12)) (21, true),
    O2 (some 114) 3 (.move (t 8)) (21, true),
    O2 (some 115) 4 (.binOp .eql 3 (t 113) (t 114) 3) (21, true),
    O1 (some 116) 4 (.pick (t 112) (t 115) (.const (.bool false))),
    O1 (some 117) 4 (.move (t 116)),
    O2 (some 118) 3 (.move (t 13)) (26, true),
    O2 (some 119) 3 (.move (t 1)) (26, true),
    O2 (some 120) 4 (.binOp .eql 3 (t 118) (t 119) 3) (26, true),
    O1 (some 121) 4 (.pick (t 117) (t 120) (.const (.bool false))),
    O1 (some 122) 4 (.move (t 121)),
    O2 (some 123) 3 (.move (t 14)) (31, true),
    O2 (some 124) 3 (.move (t 2)) (31, true),
    O2 (some 125) 4 (.binOp .eql 3 (t 123) (t 124) 3) (31, true),
    O1 (some 126) 4 (.pick (t 122) (t 125) (.const (.bool false))),
    O1 (some 127) 4 (.move (t 126)),
    O2 (some 128) 3 (.move (t 15)) (36, true),
    O2 (some 129) 9 (.move (t 9)) (36, true),
    O2 (some 130) 3 (.call ⟨(.builtin .len), #[(t 129)], #[9]⟩) (36, true),
    O2 (some 131) 4 (.binOp .eql 3 (t 128) (t 130) 3) (36, true),
    O1 (some 132) 4 (.pick (t 127) (t 131) (.const (.bool false))),
    O1 (some 6) 4 (.assign (t 132))]⟩ false)
  .ret)
def r4_6 : Code :=
 (.seq
  (.region 13 ⟨[O1 (some 48) 9 (.move (t 9)),
    O1 (some 49) 28 (.call ⟨(.value (.func 8)), #[(t 48), (ci 0)], #[9, 3]⟩),
    O1 (some 47) 28 (.move (t 49)),
    O1 (some 50) 3 (.extract (t 47) 0),
    O1 (some 51) 3 (.extract (t 47) 1),
    O1 (some 52) 3 (.extract (t 47) 2),
    O1 (some 53) 3 (.extract (t 47) 3),
    O1 (some 54) 3 (.extract (t 47) 4),
    O1 (some 55) 27 (.extract (t 47) 5),
    O1 (some 16) 0 (.alloc 27),
    O1 (some 11) 3 (.assign (t 50)),
    O1 (some 12) 3 (.assign (t 51)),
    O1 (some 13) 3 (.assign (t 52)),
    O1 (some 14) 3 (.assign (t 53)),
    O1 (some 15) 3 (.assign (t 54)),
    O1 none 0 (.store 27 (t 16) (t 55))]⟩ false)
  (.seq
   (.region 14 ⟨[O1 (some 17) 3 (.assign (ci 1))]⟩ false)
   (.seq
    (.block 0
     (.seq
      (.region 15 ⟨[O1 (some 57) 3 (.move (t 8)),
        O1 (some 58) 4 (.binOp .eql 3 (t 57) (ci 0) 3),
        O1 (some 59) 4 (.move (t 58)),
        O2 (some 60) 3 (.move (t 1)) (2, true),
        O2 (some 61) 4 (.binOp .geq 3 (t 60) (ci 4096) 3) (2, true),
        O1 (some 62) 4 (.pick (t 59) (t 61) (.const (.bool false))),
        O1 (some 56) 4 (.assign (t 62))]⟩ false)
      r4_4))
    r4_5)))
def r4_7 : Code :=
 (.seq
  (.region 10 ⟨[O1 (some 30) 3 (.move (t 0)),
    O1 (some 31) 3 (.move (t 1)),
    O1 (some 32) 3 (.move (t 2)),
    O1 (some 33) 24 (.call ⟨(.value (.func 6)), #[(t 30), (t 31), (t 32)], #[3, 3, 3]⟩),
    O1 (some 29) 24 (.move (t 33)),
    O1 (some 34) 9 (.extract (t 29) 0),
    O1 (some 35) 23 (.extract (t 29) 1),
    O1 (some 9) 9 (.assign (t 34)),
    O1 (some 10) 23 (.assign (t 35))]⟩ false)
  (.seq
   (.seq
    (.region 11 ⟨[O1 (some 36) 3 (.move (t 8)),
      O1 (some 37) 4 (.binOp .eql 3 (t 36) (ci 1) 3),
      O1 (some 38) 4 (.move (t 37)),
      O2 (some 39) 3 (.move (t 2)) (2, true),
      O2 (some 40) 4 (.binOp .geq 3 (t 39) (ci 1024) 3) (2, true),
      O1 (some 41) 4 (.pick (t 38) (t 40) (.const (.bool false)))]⟩ false)
    r4_0)
   r4_6))
def b4 : Code :=
 (.seq
  (.region 0 ⟨[O1 (some 6) 4 (.assign (.const (.bool false)))]⟩ false)
  (.seq
   (.region 1 ⟨[O1 (some 18) 4 (.call ⟨(.value (.func 10)), #[], #[]⟩),
     O1 (some 7) 4 (.assign (t 18))]⟩ false)
   (.seq
    (.region 2 ⟨[O1 (some 19) 3 (.move (t 0)),
      O1 (some 20) 3 (.call ⟨(.value (.func 11)), #[(t 19), (ci 4)], #[3, 3]⟩),
      O1 (some 0) 3 (.assign (t 20))]⟩ false)
    (.seq
     (.region 3 ⟨[O1 (some 21) 3 (.move (t 1)),
       O1 (some 22) 3 (.call ⟨(.value (.func 11)), #[(t 21), (ci 131073)], #[3, 3]⟩),
       O1 (some 23) 3 (.move (t 2)),
       O1 (some 24) 3 (.call ⟨(.value (.func 11)), #[(t 23), (ci 131073)], #[3, 3]⟩),
       O1 (some 1) 3 (.assign (t 22)),
       O1 (some 2) 3 (.assign (t 24))]⟩ false)
     (.seq
      (.region 4 ⟨[O1 (some 8) 3 (.assign (ci 0))]⟩ false)
      (.seq
       (.seq
        (.region 5 ⟨[O1 (some 25) 3 (.move (t 0)),
          O1 (some 26) 4 (.binOp .lss 3 (t 25) (ci 2) 3)]⟩ false)
        (.cond (t 26)
         (.region 6 ⟨[O1 (some 2) 3 (.assign (ci 0))]⟩ false)
         (.seq
          (.region 7 ⟨[O1 (some 27) 3 (.move (t 1)),
            O1 (some 28) 4 (.binOp .lss 3 (t 27) (ci 256) 3)]⟩ false)
          (.cond (t 28)
           (.region 8 ⟨[O1 (some 8) 3 (.assign (ci 1))]⟩ false)
           (.region 9 ⟨[O1 (some 8) 3 (.assign (ci 4))]⟩ false)))))
       r4_7))))))
theorem fn4 : (ctx.fn.get 4).map slimF = some ⟨133, [.tmp 6], b4⟩ := by kernel_rfl
def L4 : List Nat := [6, 41, 7, 10, 79, 8, 70, 1, 2, 63, 56, 9, 17, 16, 11, 0, 12, 13, 14, 15]
abbrev W4 (b : Bool) : Code → St → (AX → St → Prop) → Prop := wpS Tryz.prog ctx L4 4 b
theorem vr4_0tt (tm : Tm) (y10 : Int) (d : List AD) (h : H) (Q : AX → St → Prop) : W4 false r4_0 ⟨133, (Tb.set (Tb.set (Tb.set tm 41 (.bool true)) 7 (.bool true)) 10 (.int .i64 y10)), d, h⟩ (sealQ L4 Q) = (((y10 = (2 : Int) → (∀ tm', getV tm' 6 = (.bool true) → getV tm' 41 = (.bool true) → getV tm' 7 = (.bool true) → getV tm' 10 = (.int .i64 y10) → kp tm' tm 79 → kp tm' tm 8 → kp tm' tm 70 → kp tm' tm 1 → kp tm' tm 2 → kp tm' tm 63 → kp tm' tm 56 → kp tm' tm 9 → kp tm' tm 17 → kp tm' tm 16 → kp tm' tm 11 → kp tm' tm 0 → kp tm' tm 12 → kp tm' tm 13 → kp tm' tm 14 → kp tm' tm 15 → Q .ret ⟨133, tm', d, h⟩)) ∧ (¬(y10 = (2 : Int)) → (∀ tm', getV tm' 6 = (.bool false) → getV tm' 41 = (.bool true) → getV tm' 7 = (.bool true) → getV tm' 10 = (.int .i64 y10) → kp tm' tm 79 → kp tm' tm 8 → kp tm' tm 70 → kp tm' tm 1 → kp tm' tm 2 → kp tm' tm 63 → kp tm' tm 56 → kp tm' tm 9 → kp tm' tm 17 → kp tm' tm 16 → kp tm' tm 11 → kp tm' tm 0 → kp tm' tm 12 → kp tm' tm 13 → kp tm' tm 14 → kp tm' tm 15 → Q .ret ⟨133, tm', d, h⟩)))) := by kernel_rfl
theorem vr4_0tf (tm : Tm)  (d : List AD) (h : H) (Q : AX → St → Prop) : W4 false r4_0 ⟨133, (Tb.set (Tb.set tm 41 (.bool true)) 7 (.bool false)), d, h⟩ (sealQ L4 Q) = ((∀ tm', getV tm' 6 = (.bool false) → getV tm' 41 = (.bool true) → getV tm' 7 = (.bool false) → kp tm' tm 10 → kp tm' tm 79 → kp tm' tm 8 → kp tm' tm 70 → kp tm' tm 1 → kp tm' tm 2 → kp tm' tm 63 → kp tm' tm 56 → kp tm' tm 9 → kp tm' tm 17 → kp tm' tm 16 → kp tm' tm 11 → kp tm' tm 0 → kp tm' tm 12 → kp tm' tm 13 → kp tm' tm 14 → kp tm' tm 15 → Q .ret ⟨133, tm', d, h⟩)) := by kernel_rfl
theorem vr4_0ft (tm : Tm)  (d : List AD) (h : H) (Q : AX → St → Prop) : W4 false r4_0 ⟨133, (Tb.set (Tb.set tm 41 (.bool false)) 7 (.bool true)), d, h⟩ (sealQ L4 Q) = ((∀ tm', kp tm' tm 6 → getV tm' 41 = (.bool false) → getV tm' 7 = (.bool true) → kp tm' tm 10 → kp tm' tm 79 → kp tm' tm 8 → kp tm' tm 70 → kp tm' tm 1 → kp tm' tm 2 → kp tm' tm 63 → kp tm' tm 56 → kp tm' tm 9 → kp tm' tm 17 → kp tm' tm 16 → kp tm' tm 11 → kp tm' tm 0 → kp tm' tm 12 → kp tm' tm 13 → kp tm' tm 14 → kp tm' tm 15 → Q .normal ⟨133, tm', d, h⟩)) := by kernel_rfl
theorem vr4_0ff (tm : Tm)  (d : List AD) (h : H) (Q : AX → St → Prop) : W4 false r4_0 ⟨133, (Tb.set (Tb.set tm 41 (.bool false)) 7 (.bool false)), d, h⟩ (sealQ L4 Q) = ((∀ tm', kp tm' tm 6 → getV tm' 41 = (.bool false) → getV tm' 7 = (.bool false) → kp tm' tm 10 → kp tm' tm 79 → kp tm' tm 8 → kp tm' tm 70 → kp tm' tm 1 → kp tm' tm 2 → kp tm' tm 63 → kp tm' tm 56 → kp tm' tm 9 → kp tm' tm 17 → kp tm' tm 16 → kp tm' tm 11 → kp tm' tm 0 → kp tm' tm 12 → kp tm' tm 13 → kp tm' tm 14 → kp tm' tm 15 → Q .normal ⟨133, tm', d, h⟩)) := by kernel_rfl
theorem vr4_1 (tm : Tm) (y79 : Bool) (y8 : Int) (d : List AD) (h : H) (Q : AX → St → Prop) : W4 false r4_1 ⟨133, (Tb.set (Tb.set tm 79 (.bool y79)) 8 (.int .i64 y8)), d, h⟩ (sealQ L4 Q) = (pickB y79 (fun u => match u with | true => (∀ tm', kp tm' tm 6 → kp tm' tm 41 → kp tm' tm 7 → kp tm' tm 10 → getV tm' 79 = (.bool y79) → getV tm' 8 = (.int .i64 y8) → kp tm' tm 70 → kp tm' tm 1 → kp tm' tm 2 → kp tm' tm 63 → kp tm' tm 56 → kp tm' tm 9 → getV tm' 17 = (.int .i64 (4 : Int)) → kp tm' tm 16 → kp tm' tm 11 → kp tm' tm 0 → kp tm' tm 12 → kp tm' tm 13 → kp tm' tm 14 → kp tm' tm 15 → Q .normal ⟨133, tm', d, h⟩) | false => (((0 : Int) < y8 → (∀ tm', kp tm' tm 6 → kp tm' tm 41 → kp tm' tm 7 → kp tm' tm 10 → getV tm' 79 = (.bool y79) → getV tm' 8 = (.int .i64 y8) → kp tm' tm 70 → kp tm' tm 1 → kp tm' tm 2 → kp tm' tm 63 → kp tm' tm 56 → kp tm' tm 9 → getV tm' 17 = (.int .i64 (3 : Int)) → kp tm' tm 16 → kp tm' tm 11 → kp tm' tm 0 → kp tm' tm 12 → kp tm' tm 13 → kp tm' tm 14 → kp tm' tm 15 → Q .normal ⟨133, tm', d, h⟩)) ∧ (¬((0 : Int) < y8) → (∀ tm', kp tm' tm 6 → kp tm' tm 41 → kp tm' tm 7 → kp tm' tm 10 → getV tm' 79 = (.bool y79) → getV tm' 8 = (.int .i64 y8) → kp tm' tm 70 → kp tm' tm 1 → kp tm' tm 2 → kp tm' tm 63 → kp tm' tm 56 → kp tm' tm 9 → kp tm' tm 17 → kp tm' tm 16 → kp tm' tm 11 → kp tm' tm 0 → kp tm' tm 12 → kp tm' tm 13 → kp tm' tm 14 → kp tm' tm 15 → Q .normal ⟨133, tm', d, h⟩))))) := by kernel_rfl
theorem vr4_2 (tm : Tm) (y70 : Bool) (y8 : Int) (y1 : Int) (y2 : Int) (d : List AD) (h : H) (Q : AX → St → Prop) : W4 false r4_2 ⟨133, (Tb.set (Tb.set (Tb.set (Tb.set tm 70 (.bool y70)) 8 (.int .i64 y8)) 1 (.int .i64 y1)) 2 (.int .i64 y2)), d, h⟩ (sealQ L4 Q) = (pickB y70 (fun u => match u with | true => (∀ tm', kp tm' tm 6 → kp tm' tm 41 → kp tm' tm 7 → kp tm' tm 10 → kp tm' tm 79 → getV tm' 8 = (.int .i64 y8) → getV tm' 70 = (.bool y70) → getV tm' 1 = (.int .i64 y1) → getV tm' 2 = (.int .i64 y2) → kp tm' tm 63 → kp tm' tm 56 → kp tm' tm 9 → getV tm' 17 = (.int .i64 (5 : Int)) → kp tm' tm 16 → kp tm' tm 11 → kp tm' tm 0 → kp tm' tm 12 → kp tm' tm 13 → kp tm' tm 14 → kp tm' tm 15 → Q .normal ⟨133, tm', d, h⟩) | false => (((0 : Int) < y8 → (((1024 : Int) ≤ (max y1 y2) → (∀ tm', kp tm' tm 6 → kp tm' tm 41 → kp tm' tm 7 → kp tm' tm 10 → getV tm' 79 = (.bool true) → getV tm' 8 = (.int .i64 y8) → getV tm' 70 = (.bool y70) → getV tm' 1 = (.int .i64 y1) → getV tm' 2 = (.int .i64 y2) → kp tm' tm 63 → kp tm' tm 56 → kp tm' tm 9 → kp tm' tm 17 → kp tm' tm 16 → kp tm' tm 11 → kp tm' tm 0 → kp tm' tm 12 → kp tm' tm 13 → kp tm' tm 14 → kp tm' tm 15 → W4 false r4_1 ⟨133, tm', d, h⟩ (sealQ L4 Q))) ∧ (¬((1024 : Int) ≤ (max y1 y2)) → (∀ tm', kp tm' tm 6 → kp tm' tm 41 → kp tm' tm 7 → kp tm' tm 10 → getV tm' 79 = (.bool false) → getV tm' 8 = (.int .i64 y8) → getV tm' 70 = (.bool y70) → getV tm' 1 = (.int .i64 y1) → getV tm' 2 = (.int .i64 y2) → kp tm' tm 63 → kp tm' tm 56 → kp tm' tm 9 → kp tm' tm 17 → kp tm' tm 16 → kp tm' tm 11 → kp tm' tm 0 → kp tm' tm 12 → kp tm' tm 13 → kp tm' tm 14 → kp tm' tm 15 → W4 false r4_1 ⟨133, tm', d, h⟩ (sealQ L4 Q))))) ∧ (¬((0 : Int) < y8) → (∀ tm', kp tm' tm 6 → kp tm' tm 41 → kp tm' tm 7 → kp tm' tm 10 → getV tm' 79 = (.bool false) → getV tm' 8 = (.int .i64 y8) → getV tm' 70 = (.bool y70) → getV tm' 1 = (.int .i64 y1) → getV tm' 2 = (.int .i64 y2) → kp tm' tm 63 → kp tm' tm 56 → kp tm' tm 9 → kp tm' tm 17 → kp tm' tm 16 → kp tm' tm 11 → kp tm' tm 0 → kp tm' tm 12 → kp tm' tm 13 → kp tm' tm 14 → kp tm' tm 15 → W4 false r4_1 ⟨133, tm', d, h⟩ (sealQ L4 Q)))))) := by kernel_rfl
theorem vr4_3 (tm : Tm) (y63 : Bool) (y8 : Int) (y1 : Int) (y2 : Int) (d : List AD) (h : H) (Q : AX → St → Prop) : W4 false r4_3 ⟨133, (Tb.set (Tb.set (Tb.set (Tb.set tm 63 (.bool y63)) 8 (.int .i64 y8)) 1 (.int .i64 y1)) 2 (.int .i64 y2)), d, h⟩ (sealQ L4 Q) = (pickB y63 (fun u => match u with | true => (∀ tm', kp tm' tm 6 → kp tm' tm 41 → kp tm' tm 7 → kp tm' tm 10 → kp tm' tm 79 → getV tm' 8 = (.int .i64 y8) → kp tm' tm 70 → getV tm' 1 = (.int .i64 y1) → getV tm' 2 = (.int .i64 y2) → getV tm' 63 = (.bool y63) → kp tm' tm 56 → kp tm' tm 9 → getV tm' 17 = (.int .i64 (2 : Int)) → kp tm' tm 16 → kp tm' tm 11 → kp tm' tm 0 → kp tm' tm 12 → kp tm' tm 13 → kp tm' tm 14 → kp tm' tm 15 → Q .normal ⟨133, tm', d, h⟩) | false => (((0 : Int) < y8 → (((16384 : Int) ≤ (max y1 y2) → (∀ tm', kp tm' tm 6 → kp tm' tm 41 → kp tm' tm 7 → kp tm' tm 10 → kp tm' tm 79 → getV tm' 8 = (.int .i64 y8) → getV tm' 70 = (.bool true) → getV tm' 1 = (.int .i64 y1) → getV tm' 2 = (.int .i64 y2) → getV tm' 63 = (.bool y63) → kp tm' tm 56 → kp tm' tm 9 → kp tm' tm 17 → kp tm' tm 16 → kp tm' tm 11 → kp tm' tm 0 → kp tm' tm 12 → kp tm' tm 13 → kp tm' tm 14 → kp tm' tm 15 → W4 false r4_2 ⟨133, tm', d, h⟩ (sealQ L4 Q))) ∧ (¬((16384 : Int) ≤ (max y1 y2)) → (∀ tm', kp tm' tm 6 → kp tm' tm 41 → kp tm' tm 7 → kp tm' tm 10 → kp tm' tm 79 → getV tm' 8 = (.int .i64 y8) → getV tm' 70 = (.bool false) → getV tm' 1 = (.int .i64 y1) → getV tm' 2 = (.int .i64 y2) → getV tm' 63 = (.bool y63) → kp tm' tm 56 → kp tm' tm 9 → kp tm' tm 17 → kp tm' tm 16 → kp tm' tm 11 → kp tm' tm 0 → kp tm' tm 12 → kp tm' tm 13 → kp tm' tm 14 → kp tm' tm 15 → W4 false r4_2 ⟨133, tm', d, h⟩ (sealQ L4 Q))))) ∧ (¬((0 : Int) < y8) → (∀ tm', kp tm' tm 6 → kp tm' tm 41 → kp tm' tm 7 → kp tm' tm 10 → kp tm' tm 79 → getV tm' 8 = (.int .i64 y8) → getV tm' 70 = (.bool false) → getV tm' 1 = (.int .i64 y1) → getV tm' 2 = (.int .i64 y2) → getV tm' 63 = (.bool y63) → kp tm' tm 56 → kp tm' tm 9 → kp tm' tm 17 → kp tm' tm 16 → kp tm' tm 11 → kp tm' tm 0 → kp tm' tm 12 → kp tm' tm 13 → kp tm' tm 14 → kp tm' tm 15 → W4 false r4_2 ⟨133, tm', d, h⟩ (sealQ L4 Q)))))) := by kernel_rfl
theorem vr4_4 (tm : Tm) (y56 : Bool) (y8 : Int) (y1 : Int) (d : List AD) (h : H) (Q : AX → St → Prop) : W4 false r4_4 ⟨133, (Tb.set (Tb.set (Tb.set tm 56 (.bool y56)) 8 (.int .i64 y8)) 1 (.int .i64 y1)), d, h⟩ (sealQ L4 Q) = (pickB y56 (fun u => match u with | true => (∀ tm', kp tm' tm 6 → kp tm' tm 41 → kp tm' tm 7 → kp tm' tm 10 → kp tm' tm 79 → getV tm' 8 = (.int .i64 y8) → kp tm' tm 70 → getV tm' 1 = (.int .i64 y1) → kp tm' tm 2 → kp tm' tm 63 → getV tm' 56 = (.bool y56) → kp tm' tm 9 → getV tm' 17 = (.int .i64 (3 : Int)) → kp tm' tm 16 → kp tm' tm 11 → kp tm' tm 0 → kp tm' tm 12 → kp tm' tm 13 → kp tm' tm 14 → kp tm' tm 15 → Q .normal ⟨133, tm', d, h⟩) | false => ((y8 = (0 : Int) → (((32 : Int) ≤ y1 → (∀ tm', kp tm' tm 6 → kp tm' tm 41 → kp tm' tm 7 → kp tm' tm 10 → kp tm' tm 79 → getV tm' 8 = (.int .i64 y8) → kp tm' tm 70 → getV tm' 1 = (.int .i64 y1) → kp tm' tm 2 → getV tm' 63 = (.bool true) → getV tm' 56 = (.bool y56) → kp tm' tm 9 → kp tm' tm 17 → kp tm' tm 16 → kp tm' tm 11 → kp tm' tm 0 → kp tm' tm 12 → kp tm' tm 13 → kp tm' tm 14 → kp tm' tm 15 → W4 false r4_3 ⟨133, tm', d, h⟩ (sealQ L4 Q))) ∧ (¬((32 : Int) ≤ y1) → (∀ tm', kp tm' tm 6 → kp tm' tm 41 → kp tm' tm 7 → kp tm' tm 10 → kp tm' tm 79 → getV tm' 8 = (.int .i64 y8) → kp tm' tm 70 → getV tm' 1 = (.int .i64 y1) → kp tm' tm 2 → getV tm' 63 = (.bool false) → getV tm' 56 = (.bool y56) → kp tm' tm 9 → kp tm' tm 17 → kp tm' tm 16 → kp tm' tm 11 → kp tm' tm 0 → kp tm' tm 12 → kp tm' tm 13 → kp tm' tm 14 → kp tm' tm 15 → W4 false r4_3 ⟨133, tm', d, h⟩ (sealQ L4 Q))))) ∧ (¬(y8 = (0 : Int)) → (∀ tm', kp tm' tm 6 → kp tm' tm 41 → kp tm' tm 7 → kp tm' tm 10 → kp tm' tm 79 → getV tm' 8 = (.int .i64 y8) → kp tm' tm 70 → getV tm' 1 = (.int .i64 y1) → kp tm' tm 2 → getV tm' 63 = (.bool false) → getV tm' 56 = (.bool y56) → kp tm' tm 9 → kp tm' tm 17 → kp tm' tm 16 → kp tm' tm 11 → kp tm' tm 0 → kp tm' tm 12 → kp tm' tm 13 → kp tm' tm 14 → kp tm' tm 15 → W4 false r4_3 ⟨133, tm', d, h⟩ (sealQ L4 Q)))))) := by kernel_rfl
theorem vr4_5t (tm : Tm) (y10 : Int) (y9 : List UInt8) (y17 : Int) (y16 : V) (y11 : Int) (y0 : Int) (y12 : Int) (y8 : Int) (y13 : Int) (y1 : Int) (y14 : Int) (y2 : Int) (y15 : Int) (d : List AD) (h : H) (Q : AX → St → Prop) : W4 false r4_5 ⟨133, (Tb.set (Tb.set (Tb.set (Tb.set (Tb.set (Tb.set (Tb.set (Tb.set (Tb.set (Tb.set (Tb.set (Tb.set (Tb.set (Tb.set tm 7 (.bool true)) 10 (.int .i64 y10)) 9 (.str y9)) 17 (.int .i64 y17)) 16 y16) 11 (.int .i64 y11)) 0 (.int .i64 y0)) 12 (.int .i64 y12)) 8 (.int .i64 y8)) 13 (.int .i64 y13)) 1 (.int .i64 y1)) 14 (.int .i64 y14)) 2 (.int .i64 y2)) 15 (.int .i64 y15)), d, h⟩ (sealQ L4 Q) = (((y10 = (0 : Int) → (((Int.ofNat (List.length y9)) = y17 → ∃ (x0 : Int) (x1 : Int), ald ctx 27 h y16 = some (.agg [(.int .i64 x0), (.int .i64 x1)]) ∧ ∃ (b2 : Bool), abin ctx .eql 27 (t 103) (t 104) (.agg [(.int .i64 x0), (.int .i64 x1)]) (.agg [(.int .i64 (0 : Int)), (.int .i64 (0 : Int))]) = some (.bool b2) ∧ ((b2 = true → ((y11 = y0 → ((y12 = y8 → ((y13 = y1 → ((y14 = y2 → ((y15 = (Int.ofNat (List.length y9)) → (∀ tm', getV tm' 6 = (.bool true) → kp tm' tm 41 → getV tm' 7 = (.bool true) → getV tm' 10 = (.int .i64 y10) → kp tm' tm 79 → getV tm' 8 = (.int .i64 y8) → kp tm' tm 70 → getV tm' 1 = (.int .i64 y1) → getV tm' 2 = (.int .i64 y2) → kp tm' tm 63 → kp tm' tm 56 → getV tm' 9 = (.str y9) → getV tm' 17 = (.int .i64 y17) → getV tm' 16 = y16 → getV tm' 11 = (.int .i64 y11) → getV tm' 0 = (.int .i64 y0) → getV tm' 12 = (.int .i64 y12) → getV tm' 13 = (.int .i64 y13) → getV tm' 14 = (.int .i64 y14) → getV tm' 15 = (.int .i64 y15) → Q .ret ⟨133, tm', d, h⟩)) ∧ (¬(y15 = (Int.ofNat (List.length y9))) → (∀ tm', getV tm' 6 = (.bool false) → kp tm' tm 41 → getV tm' 7 = (.bool true) → getV tm' 10 = (.int .i64 y10) → kp tm' tm 79 → getV tm' 8 = (.int .i64 y8) → kp tm' tm 70 → getV tm' 1 = (.int .i64 y1) → getV tm' 2 = (.int .i64 y2) → kp tm' tm 63 → kp tm' tm 56 → getV tm' 9 = (.str y9) → getV tm' 17 = (.int .i64 y17) → getV tm' 16 = y16 → getV tm' 11 = (.int .i64 y11) → getV tm' 0 = (.int .i64 y0) → getV tm' 12 = (.int .i64 y12) → getV tm' 13 = (.int .i64 y13) → getV tm' 14 = (.int .i64 y14) → getV tm' 15 = (.int .i64 y15) → Q .ret ⟨133, tm', d, h⟩)))) ∧ (¬(y14 = y2) → (∀ tm', getV tm' 6 = (.bool false) → kp tm' tm 41 → getV tm' 7 = (.bool true) → getV tm' 10 = (.int .i64 y10) → kp tm' tm 79 → getV tm' 8 = (.int .i64 y8) → kp tm' tm 70 → getV tm' 1 = (.int .i64 y1) → getV tm' 2 = (.int .i64 y2) → kp tm' tm 63 → kp tm' tm 56 → getV tm' 9 = (.str y9) → getV tm' 17 = (.int .i64 y17) → getV tm' 16 = y16 → getV tm' 11 = (.int .i64 y11) → getV tm' 0 = (.int .i64 y0) → getV tm' 12 = (.int .i64 y12) → getV tm' 13 = (.int .i64 y13) → getV tm' 14 = (.int .i64 y14) → getV tm' 15 = (.int .i64 y15) → Q .ret ⟨133, tm', d, h⟩)))) ∧ (¬(y13 = y1) → (∀ tm', getV tm' 6 = (.bool false) → kp tm' tm 41 → getV tm' 7 = (.bool true) → getV tm' 10 = (.int .i64 y10) → kp tm' tm 79 → getV tm' 8 = (.int .i64 y8) → kp tm' tm 70 → getV tm' 1 = (.int .i64 y1) → getV tm' 2 = (.int .i64 y2) → kp tm' tm 63 → kp tm' tm 56 → getV tm' 9 = (.str y9) → getV tm' 17 = (.int .i64 y17) → getV tm' 16 = y16 → getV tm' 11 = (.int .i64 y11) → getV tm' 0 = (.int .i64 y0) → getV tm' 12 = (.int .i64 y12) → getV tm' 13 = (.int .i64 y13) → getV tm' 14 = (.int .i64 y14) → getV tm' 15 = (.int .i64 y15) → Q .ret ⟨133, tm', d, h⟩)))) ∧ (¬(y12 = y8) → (∀ tm', getV tm' 6 = (.bool false) → kp tm' tm 41 → getV tm' 7 = (.bool true) → getV tm' 10 = (.int .i64 y10) → kp tm' tm 79 → getV tm' 8 = (.int .i64 y8) → kp tm' tm 70 → getV tm' 1 = (.int .i64 y1) → getV tm' 2 = (.int .i64 y2) → kp tm' tm 63 → kp tm' tm 56 → getV tm' 9 = (.str y9) → getV tm' 17 = (.int .i64 y17) → getV tm' 16 = y16 → getV tm' 11 = (.int .i64 y11) → getV tm' 0 = (.int .i64 y0) → getV tm' 12 = (.int .i64 y12) → getV tm' 13 = (.int .i64 y13) → getV tm' 14 = (.int .i64 y14) → getV tm' 15 = (.int .i64 y15) → Q .ret ⟨133, tm', d, h⟩)))) ∧ (¬(y11 = y0) → (∀ tm', getV tm' 6 = (.bool false) → kp tm' tm 41 → getV tm' 7 = (.bool true) → getV tm' 10 = (.int .i64 y10) → kp tm' tm 79 → getV tm' 8 = (.int .i64 y8) → kp tm' tm 70 → getV tm' 1 = (.int .i64 y1) → getV tm' 2 = (.int .i64 y2) → kp tm' tm 63 → kp tm' tm 56 → getV tm' 9 = (.str y9) → getV tm' 17 = (.int .i64 y17) → getV tm' 16 = y16 → getV tm' 11 = (.int .i64 y11) → getV tm' 0 = (.int .i64 y0) → getV tm' 12 = (.int .i64 y12) → getV tm' 13 = (.int .i64 y13) → getV tm' 14 = (.int .i64 y14) → getV tm' 15 = (.int .i64 y15) → Q .ret ⟨133, tm', d, h⟩)))) ∧ (b2 = false → (∀ tm', getV tm' 6 = (.bool false) → kp tm' tm 41 → getV tm' 7 = (.bool true) → getV tm' 10 = (.int .i64 y10) → kp tm' tm 79 → getV tm' 8 = (.int .i64 y8) → kp tm' tm 70 → getV tm' 1 = (.int .i64 y1) → getV tm' 2 = (.int .i64 y2) → kp tm' tm 63 → kp tm' tm 56 → getV tm' 9 = (.str y9) → getV tm' 17 = (.int .i64 y17) → getV tm' 16 = y16 → getV tm' 11 = (.int .i64 y11) → getV tm' 0 = (.int .i64 y0) → getV tm' 12 = (.int .i64 y12) → getV tm' 13 = (.int .i64 y13) → getV tm' 14 = (.int .i64 y14) → getV tm' 15 = (.int .i64 y15) → Q .ret ⟨133, tm', d, h⟩)))) ∧ (¬((Int.ofNat (List.length y9)) = y17) → (∀ tm', getV tm' 6 = (.bool false) → kp tm' tm 41 → getV tm' 7 = (.bool true) → getV tm' 10 = (.int .i64 y10) → kp tm' tm 79 → getV tm' 8 = (.int .i64 y8) → kp tm' tm 70 → getV tm' 1 = (.int .i64 y1) → getV tm' 2 = (.int .i64 y2) → kp tm' tm 63 → kp tm' tm 56 → getV tm' 9 = (.str y9) → getV tm' 17 = (.int .i64 y17) → getV tm' 16 = y16 → getV tm' 11 = (.int .i64 y11) → getV tm' 0 = (.int .i64 y0) → getV tm' 12 = (.int .i64 y12) → getV tm' 13 = (.int .i64 y13) → getV tm' 14 = (.int .i64 y14) → getV tm' 15 = (.int .i64 y15) → Q .ret ⟨133, tm', d, h⟩)))) ∧ (¬(y10 = (0 : Int)) → (∀ tm', getV tm' 6 = (.bool false) → kp tm' tm 41 → getV tm' 7 = (.bool true) → getV tm' 10 = (.int .i64 y10) → kp tm' tm 79 → getV tm' 8 = (.int .i64 y8) → kp tm' tm 70 → getV tm' 1 = (.int .i64 y1) → getV tm' 2 = (.int .i64 y2) → kp tm' tm 63 → kp tm' tm 56 → getV tm' 9 = (.str y9) → getV tm' 17 = (.int .i64 y17) → getV tm' 16 = y16 → getV tm' 11 = (.int .i64 y11) → getV tm' 0 = (.int .i64 y0) → getV tm' 12 = (.int .i64 y12) → getV tm' 13 = (.int .i64 y13) → getV tm' 14 = (.int .i64 y14) → getV tm' 15 = (.int .i64 y15) → Q .ret ⟨133, tm', d, h⟩)))) := by kernel_rfl
theorem vr4_5f (tm : Tm)  (d : List AD) (h : H) (Q : AX → St → Prop) : W4 false r4_5 ⟨133, (Tb.set tm 7 (.bool false)), d, h⟩ (sealQ L4 Q) = ((∀ tm', getV tm' 6 = (.bool false) → kp tm' tm 41 → getV tm' 7 = (.bool false) → kp tm' tm 10 → kp tm' tm 79 → kp tm' tm 8 → kp tm' tm 70 → kp tm' tm 1 → kp tm' tm 2 → kp tm' tm 63 → kp tm' tm 56 → kp tm' tm 9 → kp tm' tm 17 → kp tm' tm 16 → kp tm' tm 11 → kp tm' tm 0 → kp tm' tm 12 → kp tm' tm 13 → kp tm' tm 14 → kp tm' tm 15 → Q .ret ⟨133, tm', d, h⟩)) := by kernel_rfl
theorem vr4_6 (tm : Tm) (y9 : List UInt8) (y8 : Int) (y1 : Int) (d : List AD) (h : H) (Q : AX → St → Prop) : W4 false r4_6 ⟨133, (Tb.set (Tb.set (Tb.set tm 9 (.str y9)) 8 (.int .i64 y8)) 1 (.int .i64 y1)), d, h⟩ (sealQ L4 Q) = (RF Tryz.prog ctx 8 [(.str y9), (.int .i64 (0 : Int))] h (fun v0 h1 => ∃ (x2 : Int) (x3 : Int) (x4 : Int) (x5 : Int) (x6 : Int) (x7 : Int) (x8 : Int), v0 = (.tuple [(.int .i64 x2), (.int .i64 x3), (.int .i64 x4), (.int .i64 x5), (.int .i64 x6), (.agg [(.int .i64 x7), (.int .i64 x8)])]) ∧ (h1.next < T.top ∧ ∀ p9 h10, p9 = h1.next → h10 = h1.new (.cells (.ls [(.int .i64 (0 : Int)), (.int .i64 (0 : Int))]) ⟨0, 28, 0⟩ true false) → ∃ h11, ast ctx 27 h10 (.ptr p9 0) (.agg [(.int .i64 x7), (.int .i64 x8)]) = some h11 ∧ ((y8 = (0 : Int) → (((4096 : Int) ≤ y1 → (∀ tm', kp tm' tm 6 → kp tm' tm 41 → kp tm' tm 7 → kp tm' tm 10 → kp tm' tm 79 → getV tm' 8 = (.int .i64 y8) → kp tm' tm 70 → getV tm' 1 = (.int .i64 y1) → kp tm' tm 2 → kp tm' tm 63 → getV tm' 56 = (.bool true) → getV tm' 9 = (.str y9) → getV tm' 17 = (.int .i64 (1 : Int)) → getV tm' 16 = (.ptr p9 0) → getV tm' 11 = (.int .i64 x2) → kp tm' tm 0 → getV tm' 12 = (.int .i64 x3) → getV tm' 13 = (.int .i64 x4) → getV tm' 14 = (.int .i64 x5) → getV tm' 15 = (.int .i64 x6) → W4 false r4_4 ⟨133, tm', d, h11⟩ (fun e s1 => (thenC (sealK L4 fun s1 => W4 false r4_5 s1 (sealQ L4 Q)) (sealQ L4 Q)) (exitB 0 e) s1))) ∧ (¬((4096 : Int) ≤ y1) → (∀ tm', kp tm' tm 6 → kp tm' tm 41 → kp tm' tm 7 → kp tm' tm 10 → kp tm' tm 79 → getV tm' 8 = (.int .i64 y8) → kp tm' tm 70 → getV tm' 1 = (.int .i64 y1) → kp tm' tm 2 → kp tm' tm 63 → getV tm' 56 = (.bool false) → getV tm' 9 = (.str y9) → getV tm' 17 = (.int .i64 (1 : Int)) → getV tm' 16 = (.ptr p9 0) → getV tm' 11 = (.int .i64 x2) → kp tm' tm 0 → getV tm' 12 = (.int .i64 x3) → getV tm' 13 = (.int .i64 x4) → getV tm' 14 = (.int .i64 x5) → getV tm' 15 = (.int .i64 x6) → W4 false r4_4 ⟨133, tm', d, h11⟩ (fun e s1 => (thenC (sealK L4 fun s1 => W4 false r4_5 s1 (sealQ L4 Q)) (sealQ L4 Q)) (exitB 0 e) s1))))) ∧ (¬(y8 = (0 : Int)) → (∀ tm', kp tm' tm 6 → kp tm' tm 41 → kp tm' tm 7 → kp tm' tm 10 → kp tm' tm 79 → getV tm' 8 = (.int .i64 y8) → kp tm' tm 70 → getV tm' 1 = (.int .i64 y1) → kp tm' tm 2 → kp tm' tm 63 → getV tm' 56 = (.bool false) → getV tm' 9 = (.str y9) → getV tm' 17 = (.int .i64 (1 : Int)) → getV tm' 16 = (.ptr p9 0) → getV tm' 11 = (.int .i64 x2) → kp tm' tm 0 → getV tm' 12 = (.int .i64 x3) → getV tm' 13 = (.int .i64 x4) → getV tm' 14 = (.int .i64 x5) → getV tm' 15 = (.int .i64 x6) → W4 false r4_4 ⟨133, tm', d, h11⟩ (fun e s1 => (thenC (sealK L4 fun s1 => W4 false r4_5 s1 (sealQ L4 Q)) (sealQ L4 Q)) (exitB 0 e) s1))))))) := by kernel_rfl
theorem vr4_7 (tm : Tm) (y0 : Int) (y1 : Int) (y2 : Int) (y8 : Int) (d : List AD) (h : H) (Q : AX → St → Prop) : W4 false r4_7 ⟨133, (Tb.set (Tb.set (Tb.set (Tb.set tm 0 (.int .i64 y0)) 1 (.int .i64 y1)) 2 (.int .i64 y2)) 8 (.int .i64 y8)), d, h⟩ (sealQ L4 Q) = (RF Tryz.prog ctx 6 [(.int .i64 y0), (.int .i64 y1), (.int .i64 y2)] h (fun v0 h1 => ∃ (l2 : List UInt8) (x3 : Int), v0 = (.tuple [(.str l2), (.int .i64 x3)]) ∧ ((y8 = (1 : Int) → (((1024 : Int) ≤ y2 → (∀ tm', kp tm' tm 6 → getV tm' 41 = (.bool true) → kp tm' tm 7 → getV tm' 10 = (.int .i64 x3) → kp tm' tm 79 → getV tm' 8 = (.int .i64 y8) → kp tm' tm 70 → getV tm' 1 = (.int .i64 y1) → getV tm' 2 = (.int .i64 y2) → kp tm' tm 63 → kp tm' tm 56 → getV tm' 9 = (.str l2) → kp tm' tm 17 → kp tm' tm 16 → kp tm' tm 11 → getV tm' 0 = (.int .i64 y0) → kp tm' tm 12 → kp tm' tm 13 → kp tm' tm 14 → kp tm' tm 15 → W4 false r4_0 ⟨133, tm', d, h1⟩ (thenC (sealK L4 fun s1 => W4 false r4_6 s1 (sealQ L4 Q)) (sealQ L4 Q)))) ∧ (¬((1024 : Int) ≤ y2) → (∀ tm', kp tm' tm 6 → getV tm' 41 = (.bool false) → kp tm' tm 7 → getV tm' 10 = (.int .i64 x3) → kp tm' tm 79 → getV tm' 8 = (.int .i64 y8) → kp tm' tm 70 → getV tm' 1 = (.int .i64 y1) → getV tm' 2 = (.int .i64 y2) → kp tm' tm 63 → kp tm' tm 56 → getV tm' 9 = (.str l2) → kp tm' tm 17 → kp tm' tm 16 → kp tm' tm 11 → getV tm' 0 = (.int .i64 y0) → kp tm' tm 12 → kp tm' tm 13 → kp tm' tm 14 → kp tm' tm 15 → W4 false r4_0 ⟨133, tm', d, h1⟩ (thenC (sealK L4 fun s1 => W4 false r4_6 s1 (sealQ L4 Q)) (sealQ L4 Q)))))) ∧ (¬(y8 = (1 : Int)) → (∀ tm', kp tm' tm 6 → getV tm' 41 = (.bool false) → kp tm' tm 7 → getV tm' 10 = (.int .i64 x3) → kp tm' tm 79 → getV tm' 8 = (.int .i64 y8) → kp tm' tm 70 → getV tm' 1 = (.int .i64 y1) → getV tm' 2 = (.int .i64 y2) → kp tm' tm 63 → kp tm' tm 56 → getV tm' 9 = (.str l2) → kp tm' tm 17 → kp tm' tm 16 → kp tm' tm 11 → getV tm' 0 = (.int .i64 y0) → kp tm' tm 12 → kp tm' tm 13 → kp tm' tm 14 → kp tm' tm 15 → W4 false r4_0 ⟨133, tm', d, h1⟩ (thenC (sealK L4 fun s1 => W4 false r4_6 s1 (sealQ L4 Q)) (sealQ L4 Q))))))) := by kernel_rfl
theorem vb4 (a0 : Int) (a1 : Int) (a2 : Int) (h : H) (Q : V → H → Prop) : W4 false b4 ⟨133, setArgs [(.int .i64 a0), (.int .i64 a1), (.int .i64 a2)] 0 (Tb.leaf undefV), [], h⟩ (endW ctx ⟨133, [.tmp 6], b4⟩ Q) = (RF Tryz.prog ctx 10 [] h (fun v0 h1 => ∃ (b2 : Bool), v0 = (.bool b2) ∧ ((b2 = true → RF Tryz.prog ctx 11 [(.int .i64 a0), (.int .i64 (4 : Int))] h1 (fun v3 h4 => ∃ (x5 : Int), v3 = (.int .i64 x5) ∧ RF Tryz.prog ctx 11 [(.int .i64 a1), (.int .i64 (131073 : Int))] h4 (fun v6 h7 => ∃ (x8 : Int), v6 = (.int .i64 x8) ∧ RF Tryz.prog ctx 11 [(.int .i64 a2), (.int .i64 (131073 : Int))] h7 (fun v9 h10 => ∃ (x11 : Int), v9 = (.int .i64 x11) ∧ ((x5 < (2 : Int) → (∀ tm', getV tm' 6 = (.bool false) → kp tm' (Tb.leaf undefV) 41 → getV tm' 7 = (.bool true) → kp tm' (Tb.leaf undefV) 10 → kp tm' (Tb.leaf undefV) 79 → getV tm' 8 = (.int .i64 (0 : Int)) → kp tm' (Tb.leaf undefV) 70 → getV tm' 1 = (.int .i64 x8) → getV tm' 2 = (.int .i64 (0 : Int)) → kp tm' (Tb.leaf undefV) 63 → kp tm' (Tb.leaf undefV) 56 → kp tm' (Tb.leaf undefV) 9 → kp tm' (Tb.leaf undefV) 17 → kp tm' (Tb.leaf undefV) 16 → kp tm' (Tb.leaf undefV) 11 → getV tm' 0 = (.int .i64 x5) → kp tm' (Tb.leaf undefV) 12 → kp tm' (Tb.leaf undefV) 13 → kp tm' (Tb.leaf undefV) 14 → kp tm' (Tb.leaf undefV) 15 → W4 false r4_7 ⟨133, tm', [], h10⟩ (endW ctx ⟨133, [.tmp 6], b4⟩ Q))) ∧ (¬(x5 < (2 : Int)) → ((x8 < (256 : Int) → (∀ tm', getV tm' 6 = (.bool false) → kp tm' (Tb.leaf undefV) 41 → getV tm' 7 = (.bool true) → kp tm' (Tb.leaf undefV) 10 → kp tm' (Tb.leaf undefV) 79 → getV tm' 8 = (.int .i64 (1 : Int)) → kp tm' (Tb.leaf undefV) 70 → getV tm' 1 = (.int .i64 x8) → getV tm' 2 = (.int .i64 x11) → kp tm' (Tb.leaf undefV) 63 → kp tm' (Tb.leaf undefV) 56 → kp tm' (Tb.leaf undefV) 9 → kp tm' (Tb.leaf undefV) 17 → kp tm' (Tb.leaf undefV) 16 → kp tm' (Tb.leaf undefV) 11 → getV tm' 0 = (.int .i64 x5) → kp tm' (Tb.leaf undefV) 12 → kp tm' (Tb.leaf undefV) 13 → kp tm' (Tb.leaf undefV) 14 → kp tm' (Tb.leaf undefV) 15 → W4 false r4_7 ⟨133, tm', [], h10⟩ (endW ctx ⟨133, [.tmp 6], b4⟩ Q))) ∧ (¬(x8 < (256 : Int)) → (∀ tm', getV tm' 6 = (.bool false) → kp tm' (Tb.leaf undefV) 41 → getV tm' 7 = (.bool true) → kp tm' (Tb.leaf undefV) 10 → kp tm' (Tb.leaf undefV) 79 → getV tm' 8 = (.int .i64 (4 : Int)) → kp tm' (Tb.leaf undefV) 70 → getV tm' 1 = (.int .i64 x8) → getV tm' 2 = (.int .i64 x11) → kp tm' (Tb.leaf undefV) 63 → kp tm' (Tb.leaf undefV) 56 → kp tm' (Tb.leaf undefV) 9 → kp tm' (Tb.leaf undefV) 17 → kp tm' (Tb.leaf undefV) 16 → kp tm' (Tb.leaf undefV) 11 → getV tm' 0 = (.int .i64 x5) → kp tm' (Tb.leaf undefV) 12 → kp tm' (Tb.leaf undefV) 13 → kp tm' (Tb.leaf undefV) 14 → kp tm' (Tb.leaf undefV) 15 → W4 false r4_7 ⟨133, tm', [], h10⟩ (endW ctx ⟨133, [.tmp 6], b4⟩ Q)))))))))) ∧ (b2 = false → RF Tryz.prog ctx 11 [(.int .i64 a0), (.int .i64 (4 : Int))] h1 (fun v12 h13 => ∃ (x14 : Int), v12 = (.int .i64 x14) ∧ RF Tryz.prog ctx 11 [(.int .i64 a1), (.int .i64 (131073 : Int))] h13 (fun v15 h16 => ∃ (x17 : Int), v15 = (.int .i64 x17) ∧ RF Tryz.prog ctx 11 [(.int .i64 a2), (.int .i64 (131073 : Int))] h16 (fun v18 h19 => ∃ (x20 : Int), v18 = (.int .i64 x20) ∧ ((x14 < (2 : Int) → (∀ tm', getV tm' 6 = (.bool false) → kp tm' (Tb.leaf undefV) 41 → getV tm' 7 = (.bool false) → kp tm' (Tb.leaf undefV) 10 → kp tm' (Tb.leaf undefV) 79 → getV tm' 8 = (.int .i64 (0 : Int)) → kp tm' (Tb.leaf undefV) 70 → getV tm' 1 = (.int .i64 x17) → getV tm' 2 = (.int .i64 (0 : Int)) → kp tm' (Tb.leaf undefV) 63 → kp tm' (Tb.leaf undefV) 56 → kp tm' (Tb.leaf undefV) 9 → kp tm' (Tb.leaf undefV) 17 → kp tm' (Tb.leaf undefV) 16 → kp tm' (Tb.leaf undefV) 11 → getV tm' 0 = (.int .i64 x14) → kp tm' (Tb.leaf undefV) 12 → kp tm' (Tb.leaf undefV) 13 → kp tm' (Tb.leaf undefV) 14 → kp tm' (Tb.leaf undefV) 15 → W4 false r4_7 ⟨133, tm', [], h19⟩ (endW ctx ⟨133, [.tmp 6], b4⟩ Q))) ∧ (¬(x14 < (2 : Int)) → ((x17 < (256 : Int) → (∀ tm', getV tm' 6 = (.bool false) → kp tm' (Tb.leaf undefV) 41 → getV tm' 7 = (.bool false) → kp tm' (Tb.leaf undefV) 10 → kp tm' (Tb.leaf undefV) 79 → getV tm' 8 = (.int .i64 (1 : Int)) → kp tm' (Tb.leaf undefV) 70 → getV tm' 1 = (.int .i64 x17) → getV tm' 2 = (.int .i64 x20) → kp tm' (Tb.leaf undefV) 63 → kp tm' (Tb.leaf undefV) 56 → kp tm' (Tb.leaf undefV) 9 → kp tm' (Tb.leaf undefV) 17 → kp tm' (Tb.leaf undefV) 16 → kp tm' (Tb.leaf undefV) 11 → getV tm' 0 = (.int .i64 x14) → kp tm' (Tb.leaf undefV) 12 → kp tm' (Tb.leaf undefV) 13 → kp tm' (Tb.leaf undefV) 14 → kp tm' (Tb.leaf undefV) 15 → W4 false r4_7 ⟨133, tm', [], h19⟩ (endW ctx ⟨133, [.tmp 6], b4⟩ Q))) ∧ (¬(x17 < (256 : Int)) → (∀ tm', getV tm' 6 = (.bool false) → kp tm' (Tb.leaf undefV) 41 → getV tm' 7 = (.bool false) → kp tm' (Tb.leaf undefV) 10 → kp tm' (Tb.leaf undefV) 79 → getV tm' 8 = (.int .i64 (4 : Int)) → kp tm' (Tb.leaf undefV) 70 → getV tm' 1 = (.int .i64 x17) → getV tm' 2 = (.int .i64 x20) → kp tm' (Tb.leaf undefV) 63 → kp tm' (Tb.leaf undefV) 56 → kp tm' (Tb.leaf undefV) 9 → kp tm' (Tb.leaf undefV) 17 → kp tm' (Tb.leaf undefV) 16 → kp tm' (Tb.leaf undefV) 11 → getV tm' 0 = (.int .i64 x14) → kp tm' (Tb.leaf undefV) 12 → kp tm' (Tb.leaf undefV) 13 → kp tm' (Tb.leaf undefV) 14 → kp tm' (Tb.leaf undefV) 15 → W4 false r4_7 ⟨133, tm', [], h19⟩ (endW ctx ⟨133, [.tmp 6], b4⟩ Q))))))))))))) := by kernel_rfl

/- cheesepress/cheesepressref25.formats -/
def b17 : Code :=
 (.seq
  (.region 0 ⟨[O1 (some 2) 42 (.assign (.const (.slice none 0 0)))]⟩ false)
  (.seq
   (.seq
    (.region 1 ⟨[O1 (some 3) 3 (.move (t 0)),
      O1 (some 4) 4 (.binOp .eql 3 (t 3) (ci 0) 3),
      O1 (some 5) 4 (.move (t 4)),
      O2 (some 6) 3 (.move (t 0)) (2, false),
      O2 (some 7) 4 (.binOp .eql 3 (t 6) (ci 1) 3) (2, false),
      O1 (some 8) 4 (.pick (t 5) (.const (.bool true)) (t 7))]⟩ false)
    (.cond (t 8)
     (.seq
      (.region 2 ⟨[O1 (some 9) 45 (.build 45 #[(0, (ci 0)), (1, (ci 1)), (2, (ci 3)), (3, (ci 8)), (4, (ci 8)), (5, (ci 0))]),
        O1 (some 10) 45 (.build 45 #[(0, (ci 1)), (1, (ci 2)), (2, (ci 4)), (3, (ci 16)), (4, (ci 16)), (5, (ci 0))]),
        O1 (some 11) 45 (.build 45 #[(0, (ci 3)), (1, (ci 3)), (2, (ci 4)), (3, (ci 24)), (4, (ci 24)), (5, (ci 0))]),
        O1 (some 12) 42 (.buildSlice 42 3 #[(0, (t 9)), (1, (t 10)), (2, (t 11))]),
        O1 (some 2) 42 (.assign (t 12))]⟩ false)
      .ret)
     .skip))
   (.seq
    (.region 3 ⟨[O1 (some 13) 45 (.build 45 #[(0, (ci 0)), (1, (ci 3)), (2, (ci 4)), (3, (ci 14)), (4, (ci 24)), (5, (ci 1))]),
      O1 (some 14) 45 (.build 45 #[(0, (ci 1)), (1, (ci 3)), (2, (ci 4)), (3, (ci 14)), (4, (ci 24)), (5, (ci 4))]),
      O1 (some 15) 45 (.build 45 #[(0, (ci 2)), (1, (ci 4)), (2, (ci 4)), (3, (ci 18)), (4, (ci 32)), (5, (ci 4))]),
      O1 (some 16) 45 (.build 45 #[(0, (ci 3)), (1, (ci 5)), (2, (ci 4)), (3, (ci 22)), (4, (ci 40)), (5, (ci 4))]),
      O1 (some 17) 42 (.buildSlice 42 4 #[(0, (t 13)), (1, (t 14)), (2, (t 15)), (3, (t 16))]),
      O1 (some 2) 42 (.assign (t 17))]⟩ false)
    .ret)))
theorem fn17 : (ctx.fn.get 17).map slimF = some ⟨18, [.tmp 2], b17⟩ := by kernel_rfl
theorem vb17 (a0 : Int) (h : H) (Q : V → H → Prop) : wpC Tryz.prog ctx false b17 ⟨18, setArgs [(.int .i64 a0)] 0 (Tb.leaf undefV), [], h⟩ (endW ctx ⟨18, [.tmp 2], b17⟩ Q) = (((a0 = (0 : Int) → ∃ v0 h1, abuildSlice ctx 42 3 [(0, (.agg [(.int .i64 (0 : Int)), (.int .i64 (1 : Int)), (.int .i64 (3 : Int)), (.int .i64 (8 : Int)), (.int .i64 (8 : Int)), (.int .i64 (0 : Int))])), (1, (.agg [(.int .i64 (1 : Int)), (.int .i64 (2 : Int)), (.int .i64 (4 : Int)), (.int .i64 (16 : Int)), (.int .i64 (16 : Int)), (.int .i64 (0 : Int))])), (2, (.agg [(.int .i64 (3 : Int)), (.int .i64 (3 : Int)), (.int .i64 (4 : Int)), (.int .i64 (24 : Int)), (.int .i64 (24 : Int)), (.int .i64 (0 : Int))]))] h = some (v0, h1) ∧ Q v0 h1) ∧ (¬(a0 = (0 : Int)) → ((a0 = (1 : Int) → ∃ v2 h3, abuildSlice ctx 42 3 [(0, (.agg [(.int .i64 (0 : Int)), (.int .i64 (1 : Int)), (.int .i64 (3 : Int)), (.int .i64 (8 : Int)), (.int .i64 (8 : Int)), (.int .i64 (0 : Int))])), (1, (.agg [(.int .i64 (1 : Int)), (.int .i64 (2 : Int)), (.int .i64 (4 : Int)), (.int .i64 (16 : Int)), (.int .i64 (16 : Int)), (.int .i64 (0 : Int))])), (2, (.agg [(.int .i64 (3 : Int)), (.int .i64 (3 : Int)), (.int .i64 (4 : Int)), (.int .i64 (24 : Int)), (.int .i64 (24 : Int)), (.int .i64 (0 : Int))]))] h = some (v2, h3) ∧ Q v2 h3) ∧ (¬(a0 = (1 : Int)) → ∃ v4 h5, abuildSlice ctx 42 4 [(0, (.agg [(.int .i64 (0 : Int)), (.int .i64 (3 : Int)), (.int .i64 (4 : Int)), (.int .i64 (14 : Int)), (.int .i64 (24 : Int)), (.int .i64 (1 : Int))])), (1, (.agg [(.int .i64 (1 : Int)), (.int .i64 (3 : Int)), (.int .i64 (4 : Int)), (.int .i64 (14 : Int)), (.int .i64 (24 : Int)), (.int .i64 (4 : Int))])), (2, (.agg [(.int .i64 (2 : Int)), (.int .i64 (4 : Int)), (.int .i64 (4 : Int)), (.int .i64 (18 : Int)), (.int .i64 (32 : Int)), (.int .i64 (4 : Int))])), (3, (.agg [(.int .i64 (3 : Int)), (.int .i64 (5 : Int)), (.int .i64 (4 : Int)), (.int .i64 (22 : Int)), (.int .i64 (40 : Int)), (.int .i64 (4 : Int))]))] h = some (v4, h5) ∧ Q v4 h5))))) := by kernel_rfl

/- cheesepress/cheesepressref01.Little -/
def l18_0 : Code :=
 (.seq
  (.seq
   (.region 5 ⟨[O1 (some 14) 3 (.move (t 7)),
     O1 (some 15) 3 (.move (t 1)),
     O1 (some 16) 4 (.binOp .lss 3 (t 14) (t 15) 3)]⟩ false)
   (.cond (t 16)
    .skip
    (.exit 0)))
  (.seq
   (.block 1
    (.seq
     (.region 7 ⟨[O1 (some 19) 9 (.move (t 6)),
       O1 (some 20) 47 (.move (t 0)),
       O1 (some 21) 47 (.binOp .rem 47 (t 20) (.const (.int .u64 (.ofNat 256))) 47),
       O1 (some 22) 5 (.convert 47 5 (t 21)),
       O1 (some 23) 79 (.buildSlice 79 1 #[(0, (t 22))]),
       O1 (some 24) 9 (.convert 79 9 (t 23)),
       O1 (some 25) 9 (.binOp .add 9 (t 19) (t 24) 9),
       O1 (some 6) 9 (.assign (t 25))]⟩ false)
     (.region 8 ⟨[O1 (some 26) 47 (.move (t 0)),
       O1 (some 27) 47 (.binOp .quo 47 (t 26) (.const (.int .u64 (.ofNat 256))) 47),
       O1 (some 0) 47 (.assign (t 27))]⟩ false)))
   (.region 6 ⟨[O1 (some 17) 3 (.move (t 7)),
     O1 (some 18) 3 (.binOp .add 3 (t 17) (ci 1) 3),
     O1 (some 7) 3 (.assign (t 18))]⟩ false)))
def r18_1 : Code :=
 (.seq
  (.seq
   (.region 9 ⟨[O1 (some 28) 47 (.move (t 0)),
     O1 (some 29) 4 (.binOp .gtr 47 (t 28) (.const (.int .u64 (.ofNat 0))) 47)]⟩ false)
   (.cond (t 29)
    (.seq
     (.region 10 ⟨[O1 (some 4) 9 (.assign (cs [])),
       O1 (some 5) 23 (.assign (ci 2))]⟩ false)
     .ret)
    .skip))
  (.seq
   (.region 11 ⟨[O1 (some 30) 9 (.move (t 6)),
     O1 (some 4) 9 (.assign (t 30)),
     O1 (some 5) 23 (.assign (ci 0))]⟩ false)
   .ret))
def b18 : Code :=
 (.seq
  (.region 0 ⟨[O1 (some 4) 9 (.assign (cs [])),
    O1 (some 5) 23 (.assign (ci 0))]⟩ false)
  (.seq
   (.seq
    (.region 1 ⟨[O1 (some 8) 3 (.move (t 1)),
      O1 (some 9) 4 (.binOp .lss 3 (t 8) (ci 1) 3),
      O1 (some 10) 4 (.move (t 9)),
      O2 (some 11) 3 (.move (t 1)) (2, false),
      O2 (some 12) 4 (.binOp .gtr 3 (t 11) (ci 8) 3) (2, false),
      O1 (some 13) 4 (.pick (t 10) (.const (.bool true)) (t 12))]⟩ false)
    (.cond (t 13)
     (.seq
      (.region 2 ⟨[O1 (some 4) 9 (.assign (cs [])),
        O1 (some 5) 23 (.assign (ci 2))]⟩ false)
      .ret)
     .skip))
   (.seq
    (.region 3 ⟨[O1 (some 6) 9 (.assign (cs []))]⟩ false)
    (.seq
     (.seq
      (.region 4 ⟨[O1 (some 7) 3 (.assign (ci 0))]⟩ false)
      (.block 0
       (.loop l18_0)))
     r18_1))))
theorem fn18 : (ctx.fn.get 18).map slimF = some ⟨31, [.tmp 4, .tmp 5], b18⟩ := by kernel_rfl
theorem vl18_0 (tm : Tm) (y7 : Int) (y1 : Int) (y6 : List UInt8) (y0 : Int) (d : List AD) (h : H) (Q : AX → St → Prop) : wpC Tryz.prog ctx false l18_0 ⟨31, (Tb.set (Tb.set (Tb.set (Tb.set tm 7 (.int .i64 y7)) 1 (.int .i64 y1)) 6 (.str y6)) 0 (.int .u64 y0)), d, h⟩ (sealQ [4, 5, 7, 1, 6, 0] Q) = (((y7 < y1 → ((256 : Int) ≠ 0 ∧ ∃ v0 h1, abuildSlice ctx 79 1 [(0, (.int .u8 (wrapF .u8 ((Int.tmod y0 (256 : Int))))))] h = some (v0, h1) ∧ wpConv ctx 79 9 h1 v0 (fun v2 h3 => wpBin ctx .add 9 (t 19) (t 24) 9 (.str y6) v2 (fun v4 => ((256 : Int) ≠ 0 ∧ (∀ tm', getV tm' 4 = getV tm 4 → getV tm' 5 = getV tm 5 → getV tm' 7 = (.int .i64 (w64 (y7 + (1 : Int)))) → getV tm' 1 = (.int .i64 y1) → getV tm' 6 = v4 → getV tm' 0 = (.int .u64 (wrapF .u64 (Int.tdiv y0 (256 : Int)))) → Q .normal ⟨31, tm', d, h3⟩)))))) ∧ (¬(y7 < y1) → (∀ tm', getV tm' 4 = getV tm 4 → getV tm' 5 = getV tm 5 → getV tm' 7 = (.int .i64 y7) → getV tm' 1 = (.int .i64 y1) → getV tm' 6 = (.str y6) → getV tm' 0 = (.int .u64 y0) → Q (.exit 0) ⟨31, tm', d, h⟩)))) := by kernel_rfl
theorem vr18_1 (tm : Tm) (y0 : Int) (y6 : List UInt8) (d : List AD) (h : H) (Q : AX → St → Prop) : wpC Tryz.prog ctx false r18_1 ⟨31, (Tb.set (Tb.set tm 0 (.int .u64 y0)) 6 (.str y6)), d, h⟩ (sealQ [4, 5, 7, 1, 6, 0] Q) = ((((0 : Int) < y0 → (∀ tm', getV tm' 4 = (.str []) → getV tm' 5 = (.int .i64 (2 : Int)) → getV tm' 7 = getV tm 7 → getV tm' 1 = getV tm 1 → getV tm' 6 = (.str y6) → getV tm' 0 = (.int .u64 y0) → Q .ret ⟨31, tm', d, h⟩)) ∧ (¬((0 : Int) < y0) → (∀ tm', getV tm' 4 = (.str y6) → getV tm' 5 = (.int .i64 (0 : Int)) → getV tm' 7 = getV tm 7 → getV tm' 1 = getV tm 1 → getV tm' 6 = (.str y6) → getV tm' 0 = (.int .u64 y0) → Q .ret ⟨31, tm', d, h⟩)))) := by kernel_rfl
theorem vb18 (a0 : Int) (a1 : Int) (h : H) (Q : V → H → Prop) : wpC Tryz.prog ctx false b18 ⟨31, setArgs [(.int .u64 a0), (.int .i64 a1)] 0 (Tb.leaf undefV), [], h⟩ (endW ctx ⟨31, [.tmp 4, .tmp 5], b18⟩ Q) = (((a1 < (1 : Int) → Q (.tuple [(.str []), (.int .i64 (2 : Int))]) h) ∧ (¬(a1 < (1 : Int)) → (((8 : Int) < a1 → Q (.tuple [(.str []), (.int .i64 (2 : Int))]) h) ∧ (¬((8 : Int) < a1) → wpC Tryz.prog ctx false (.loop l18_0) ⟨31, (Tb.set (Tb.set (Tb.set (Tb.set (Tb.set (Tb.set (Tb.set (Tb.set (Tb.set (Tb.set (Tb.set (Tb.set (Tb.leaf undefV) 0 (.int .u64 a0)) 1 (.int .i64 a1)) 4 (.str [])) 5 (.int .i64 (0 : Int))) 8 (.int .i64 a1)) 9 (.bool false)) 10 (.bool false)) 11 (.int .i64 a1)) 12 (.bool false)) 13 (.bool false)) 6 (.str [])) 7 (.int .i64 (0 : Int))), [], h⟩ (fun e s1 => (thenC (fun s1 => wpC Tryz.prog ctx false r18_1 s1 (endW ctx ⟨31, [.tmp 4, .tmp 5], b18⟩ Q)) (endW ctx ⟨31, [.tmp 4, .tmp 5], b18⟩ Q)) (exitB 0 e) s1)))))) := by kernel_rfl

/- cheesepress/cursor.Byte -/
def b19 : Code :=
 (.seq
  (.region 0 ⟨[O1 (some 1) 0 (.box 50 (t 0)),
    O1 (some 2) 0 (.alloc 50),
    O1 (some 3) 3 (.assign (ci 0))]⟩ false)
  (.seq
   (.region 1 ⟨[O1 (some 5) 50 (.load 50 (t 1)),
     O1 (some 6) 80 (.call ⟨(.value (.func 34)), #[(t 5)], #[50]⟩),
     O1 (some 4) 80 (.assign (t 6))]⟩ false)
   (.seq
    (.region 2 ⟨[O1 (some 7) 80 (.move (t 4)),
      O1 (some 8) 80 (.move (t 4)),
      O1 (some 9) 9 (.call ⟨(.value (.func 37)), #[(t 8), (ci 1)], #[80, 3]⟩),
      O1 (some 10) 47 (.call ⟨(.value (.func 36)), #[(t 9)], #[9]⟩),
      O1 (some 11) 3 (.convert 47 3 (t 10)),
      O1 (some 12) 51 (.call ⟨(.value (.func 35)), #[(t 7), (t 11)], #[80, 3]⟩),
      O1 (some 13) 50 (.extract (t 12) 0),
      O1 (some 14) 3 (.extract (t 12) 1),
      O1 none 0 (.store 50 (t 2) (t 13)),
      O1 (some 3) 3 (.assign (t 14))]⟩ false)
    .ret)))
theorem fn19 : (ctx.fn.get 19).map slimF = some ⟨15, [.cell 2 50, .tmp 3], b19⟩ := by kernel_rfl
theorem vb19 (a0_0 : List UInt8) (a0_1 : Int) (a0_2 : Int) (a0_3 : Int) (h : H) (Q : V → H → Prop) : wpC Tryz.prog ctx false b19 ⟨15, setArgs [(.agg [(.str a0_0), (.int .i64 a0_1), (.int .i64 a0_2), (.int .i64 a0_3)])] 0 (Tb.leaf undefV), [], h⟩ (endW ctx ⟨15, [.cell 2 50, .tmp 3], b19⟩ Q) = ((h.next < T.top ∧ ∀ p0 h1, p0 = h.next → h1 = h.new (.cells (.ls [(.str a0_0), (.int .i64 a0_1), (.int .i64 a0_2), (.int .i64 a0_3)]) ⟨0, 51, 0⟩ true false) → (h1.next < T.top ∧ ∀ p2 h3, p2 = h1.next → h3 = h1.new (.cells (.ls [(.str []), (.int .i64 (0 : Int)), (.int .i64 (0 : Int)), (.int .i64 (0 : Int))]) ⟨0, 51, 0⟩ true false) → ∃ (l4 : List UInt8) (x5 : Int) (x6 : Int) (x7 : Int), ald ctx 50 h3 (.ptr p0 0) = some (.agg [(.str l4), (.int .i64 x5), (.int .i64 x6), (.int .i64 x7)]) ∧ RF Tryz.prog ctx 34 [(.agg [(.str l4), (.int .i64 x5), (.int .i64 x6), (.int .i64 x7)])] h3 (fun v8 h9 => ∃ (v10 : V), v8 = v10 ∧ RF Tryz.prog ctx 37 [v10, (.int .i64 (1 : Int))] h9 (fun v11 h12 => ∃ (l13 : List UInt8), v11 = (.str l13) ∧ RF Tryz.prog ctx 36 [(.str l13)] h12 (fun v14 h15 => ∃ (x16 : Int), v14 = (.int .u64 x16) ∧ RF Tryz.prog ctx 35 [v10, (.int .i64 (w64 (x16)))] h15 (fun v17 h18 => ∃ (l19 : List UInt8) (x20 : Int) (x21 : Int) (x22 : Int) (x23 : Int), v17 = (.tuple [(.agg [(.str l19), (.int .i64 x20), (.int .i64 x21), (.int .i64 x22)]), (.int .i64 x23)]) ∧ ∃ h24, ast ctx 50 h18 (.ptr p2 0) (.agg [(.str l19), (.int .i64 x20), (.int .i64 x21), (.int .i64 x22)]) = some h24 ∧ (endW ctx ⟨15, [.cell 2 50, .tmp 3], b19⟩ Q) .ret ⟨15, (Tb.set (Tb.set (Tb.set (Tb.set (Tb.set (Tb.set (Tb.set (Tb.set (Tb.set (Tb.set (Tb.set (Tb.set (Tb.set (Tb.set (Tb.set (Tb.set (Tb.leaf undefV) 0 (.agg [(.str a0_0), (.int .i64 a0_1), (.int .i64 a0_2), (.int .i64 a0_3)])) 1 (.ptr p0 0)) 2 (.ptr p2 0)) 3 (.int .i64 (0 : Int))) 5 (.agg [(.str l4), (.int .i64 x5), (.int .i64 x6), (.int .i64 x7)])) 6 v10) 4 v10) 7 v10) 8 v10) 9 (.str l13)) 10 (.int .u64 x16)) 11 (.int .i64 (w64 (x16)))) 12 (.tuple [(.agg [(.str l19), (.int .i64 x20), (.int .i64 x21), (.int .i64 x22)]), (.int .i64 x23)])) 13 (.agg [(.str l19), (.int .i64 x20), (.int .i64 x21), (.int .i64 x22)])) 14 (.int .i64 x23)) 3 (.int .i64 x23)), [], h24⟩))))))) := by kernel_rfl

/- cheesepress/cursor.New -/
def b20 : Code :=
 (.seq
  (.region 0 ⟨[O1 (some 4) 0 (.alloc 50)]⟩ false)
  (.seq
   (.seq
    (.region 1 ⟨[O1 (some 5) 3 (.move (t 1)),
      O1 (some 6) 4 (.binOp .lss 3 (t 5) (ci 0) 3),
      O1 (some 7) 4 (.move (t 6)),
      O2 (some 8) 3 (.move (t 1)) (2, false),
      O2 (some 9) 9 (.move (t 0)) (2, false),
      O2 (some 10) 3 (.call ⟨(.builtin .len), #[(t 9)], #[9]⟩) (2, false),
      O2 (some 11) 4 (.binOp .gtr 3 (t 8) (t 10) 3) (2, false),
      O1 (some 12) 4 (.pick (t 7) (.const (.bool true)) (t 11))]⟩ false)
    (.cond (t 12)
     (.seq
      (.region 2 ⟨[O1 (some 13) 9 (.move (t 0)),
        O1 (some 14) 27 (.build 27 #[(0, (ci 2))]),
        O1 (some 15) 50 (.build 50 #[(0, (t 13)), (2, (t 14))]),
        O1 none 0 (.store 50 (t 4) (t 15))]⟩ false)
      .ret)
     .skip))
   (.seq
    (.region 3 ⟨[O1 (some 16) 9 (.move (t 0)),
      O1 (some 17) 3 (.move (t 1)),
      O1 (some 18) 50 (.build 50 #[(0, (t 16)), (1, (t 17))]),
      O1 none 0 (.store 50 (t 4) (t 18))]⟩ false)
    .ret)))
theorem fn20 : (ctx.fn.get 20).map slimF = some ⟨19, [.cell 4 50], b20⟩ := by kernel_rfl
theorem vb20 (a0 : List UInt8) (a1 : Int) (h : H) (Q : V → H → Prop) : wpC Tryz.prog ctx false b20 ⟨19, setArgs [(.str a0), (.int .i64 a1)] 0 (Tb.leaf undefV), [], h⟩ (endW ctx ⟨19, [.cell 4 50], b20⟩ Q) = ((h.next < T.top ∧ ∀ p0 h1, p0 = h.next → h1 = h.new (.cells (.ls [(.str []), (.int .i64 (0 : Int)), (.int .i64 (0 : Int)), (.int .i64 (0 : Int))]) ⟨0, 51, 0⟩ true false) → ((a1 < (0 : Int) → ∃ h2, ast ctx 50 h1 (.ptr p0 0) (.agg [(.str a0), (.int .i64 (0 : Int)), (.int .i64 (2 : Int)), (.int .i64 (0 : Int))]) = some h2 ∧ (endW ctx ⟨19, [.cell 4 50], b20⟩ Q) .ret ⟨19, (Tb.set (Tb.set (Tb.set (Tb.set (Tb.set (Tb.set (Tb.set (Tb.set (Tb.set (Tb.set (Tb.set (Tb.set (Tb.set (Tb.set (Tb.leaf undefV) 0 (.str a0)) 1 (.int .i64 a1)) 4 (.ptr p0 0)) 5 (.int .i64 a1)) 6 (.bool true)) 7 (.bool true)) 8 undefV) 9 undefV) 10 undefV) 11 undefV) 12 (.bool true)) 13 (.str a0)) 14 (.agg [(.int .i64 (2 : Int)), (.int .i64 (0 : Int))])) 15 (.agg [(.str a0), (.int .i64 (0 : Int)), (.int .i64 (2 : Int)), (.int .i64 (0 : Int))])), [], h2⟩) ∧ (¬(a1 < (0 : Int)) → (((Int.ofNat (List.length a0)) < a1 → ∃ h3, ast ctx 50 h1 (.ptr p0 0) (.agg [(.str a0), (.int .i64 (0 : Int)), (.int .i64 (2 : Int)), (.int .i64 (0 : Int))]) = some h3 ∧ (endW ctx ⟨19, [.cell 4 50], b20⟩ Q) .ret ⟨19, (Tb.set (Tb.set (Tb.set (Tb.set (Tb.set (Tb.set (Tb.set (Tb.set (Tb.set (Tb.set (Tb.set (Tb.set (Tb.set (Tb.set (Tb.leaf undefV) 0 (.str a0)) 1 (.int .i64 a1)) 4 (.ptr p0 0)) 5 (.int .i64 a1)) 6 (.bool false)) 7 (.bool false)) 8 (.int .i64 a1)) 9 (.str a0)) 10 (.int .i64 (Int.ofNat (List.length a0)))) 11 (.bool true)) 12 (.bool true)) 13 (.str a0)) 14 (.agg [(.int .i64 (2 : Int)), (.int .i64 (0 : Int))])) 15 (.agg [(.str a0), (.int .i64 (0 : Int)), (.int .i64 (2 : Int)), (.int .i64 (0 : Int))])), [], h3⟩) ∧ (¬((Int.ofNat (List.length a0)) < a1) → ∃ h4, ast ctx 50 h1 (.ptr p0 0) (.agg [(.str a0), (.int .i64 a1), (.int .i64 (0 : Int)), (.int .i64 (0 : Int))]) = some h4 ∧ (endW ctx ⟨19, [.cell 4 50], b20⟩ Q) .ret ⟨19, (Tb.set (Tb.set (Tb.set (Tb.set (Tb.set (Tb.set (Tb.set (Tb.set (Tb.set (Tb.set (Tb.set (Tb.set (Tb.set (Tb.set (Tb.leaf undefV) 0 (.str a0)) 1 (.int .i64 a1)) 4 (.ptr p0 0)) 5 (.int .i64 a1)) 6 (.bool false)) 7 (.bool false)) 8 (.int .i64 a1)) 9 (.str a0)) 10 (.int .i64 (Int.ofNat (List.length a0)))) 11 (.bool false)) 12 (.bool false)) 16 (.str a0)) 17 (.int .i64 a1)) 18 (.agg [(.str a0), (.int .i64 a1), (.int .i64 (0 : Int)), (.int .i64 (0 : Int))])), [], h4⟩)))))) := by kernel_rfl

/- (cheesepress/lits.kind).formats -/
def b21 : Code :=
 (.seq
  (.region 0 ⟨[O1 (some 2) 0 (.alloc 56)]⟩ false)
  (.seq
   (.seq
    (.region 1 ⟨[O1 (some 3) 39 (.move (t 0))]⟩ false)
    (.block 0
     (.seq
      (.block 2
       (.block 1
        (.seq
         (.seq
          (.seq
           (.region 2 ⟨[O1 (some 5) 4 (.binOp .eql 39 (t 3) (ci 0) 39),
             O1 (some 4) 4 (.assign (t 5))]⟩ false)
           (.cond (t 4)
            (.exit 1)
            .skip))
          (.seq
           (.region 3 ⟨[O1 (some 7) 4 (.binOp .eql 39 (t 3) (ci 1) 39),
             O1 (some 6) 4 (.assign (t 7))]⟩ false)
           (.cond (t 6)
            (.exit 2)
            .skip)))
         (.exit 0))))
      (.seq
       (.seq
        (.region 4 ⟨[O1 (some 8) 55 (.build 55 #[(0, (ci 1)), (1, (ci 3)), (2, (ci 5)), (3, (ci 0)), (4, (ci 0))]),
          O1 (some 9) 55 (.build 55 #[(0, (ci 2)), (1, (ci 4)), (2, (ci 12)), (3, (ci 0)), (4, (ci 0))]),
          O1 (some 10) 55 (.build 55 #[(0, (ci 1)), (1, (ci 3)), (2, (ci 5)), (3, (ci 0)), (4, (ci 0))]),
          O1 (some 11) 55 (.build 55 #[(0, (ci 3)), (1, (ci 4)), (2, (ci 20)), (3, (ci 0)), (4, (ci 0))]),
          O1 (some 12) 56 (.build 56 #[(0, (t 8)), (1, (t 9)), (2, (t 10)), (3, (t 11))]),
          O1 none 0 (.store 56 (t 2) (t 12))]⟩ false)
        .ret)
       (.exit 0)))))
   (.seq
    (.region 5 ⟨[O1 (some 13) 55 (.build 55 #[(0, (ci 3)), (1, (ci 4)), (2, (ci 10)), (3, (ci 10)), (4, (ci 1))]),
      O1 (some 14) 55 (.build 55 #[(0, (ci 3)), (1, (ci 4)), (2, (ci 10)), (3, (ci 10)), (4, (ci 4))]),
      O1 (some 15) 55 (.build 55 #[(0, (ci 4)), (1, (ci 4)), (2, (ci 14)), (3, (ci 14)), (4, (ci 4))]),
      O1 (some 16) 55 (.build 55 #[(0, (ci 5)), (1, (ci 4)), (2, (ci 18)), (3, (ci 18)), (4, (ci 4))]),
      O1 (some 17) 56 (.build 56 #[(0, (t 13)), (1, (t 14)), (2, (t 15)), (3, (t 16))]),
      O1 none 0 (.store 56 (t 2) (t 17))]⟩ false)
    .ret)))
theorem fn21 : (ctx.fn.get 21).map slimF = some ⟨18, [.cell 2 56], b21⟩ := by kernel_rfl
theorem vb21 (a0 : Int) (h : H) (Q : V → H → Prop) : wpC Tryz.prog ctx false b21 ⟨18, setArgs [(.int .i64 a0)] 0 (Tb.leaf undefV), [], h⟩ (endW ctx ⟨18, [.cell 2 56], b21⟩ Q) = (wpCs (cond (allOne (V.cells (.agg [(.int .i64 (0 : Int)), (.int .i64 (0 : Int)), (.int .i64 (0 : Int)), (.int .i64 (0 : Int)), (.int .i64 (0 : Int)), (.int .i64 (0 : Int)), (.int .i64 (0 : Int)), (.int .i64 (0 : Int)), (.int .i64 (0 : Int)), (.int .i64 (0 : Int)), (.int .i64 (0 : Int)), (.int .i64 (0 : Int)), (.int .i64 (0 : Int)), (.int .i64 (0 : Int)), (.int .i64 (0 : Int)), (.int .i64 (0 : Int)), (.int .i64 (0 : Int)), (.int .i64 (0 : Int)), (.int .i64 (0 : Int)), (.int .i64 (0 : Int))]))) (Cs.ofL (V.cells (.agg [(.int .i64 (0 : Int)), (.int .i64 (0 : Int)), (.int .i64 (0 : Int)), (.int .i64 (0 : Int)), (.int .i64 (0 : Int)), (.int .i64 (0 : Int)), (.int .i64 (0 : Int)), (.int .i64 (0 : Int)), (.int .i64 (0 : Int)), (.int .i64 (0 : Int)), (.int .i64 (0 : Int)), (.int .i64 (0 : Int)), (.int .i64 (0 : Int)), (.int .i64 (0 : Int)), (.int .i64 (0 : Int)), (.int .i64 (0 : Int)), (.int .i64 (0 : Int)), (.int .i64 (0 : Int)), (.int .i64 (0 : Int)), (.int .i64 (0 : Int))]))) none) (fun cs2 => h.next < T.top ∧ ∀ p0 h1, p0 = h.next → h1 = h.new (.cells cs2 ⟨0, 57, 0⟩ true false) → ((a0 = (0 : Int) → ∃ h3, ast ctx 56 h1 (.ptr p0 0) (.agg [(.int .i64 (1 : Int)), (.int .i64 (3 : Int)), (.int .i64 (5 : Int)), (.int .i64 (0 : Int)), (.int .i64 (0 : Int)), (.int .i64 (2 : Int)), (.int .i64 (4 : Int)), (.int .i64 (12 : Int)), (.int .i64 (0 : Int)), (.int .i64 (0 : Int)), (.int .i64 (1 : Int)), (.int .i64 (3 : Int)), (.int .i64 (5 : Int)), (.int .i64 (0 : Int)), (.int .i64 (0 : Int)), (.int .i64 (3 : Int)), (.int .i64 (4 : Int)), (.int .i64 (20 : Int)), (.int .i64 (0 : Int)), (.int .i64 (0 : Int))]) = some h3 ∧ (endW ctx ⟨18, [.cell 2 56], b21⟩ Q) .ret ⟨18, (Tb.set (Tb.set (Tb.set (Tb.set (Tb.set (Tb.set (Tb.set (Tb.set (Tb.set (Tb.set (Tb.leaf undefV) 0 (.int .i64 a0)) 2 (.ptr p0 0)) 3 (.int .i64 a0)) 5 (.bool true)) 4 (.bool true)) 8 (.agg [(.int .i64 (1 : Int)), (.int .i64 (3 : Int)), (.int .i64 (5 : Int)), (.int .i64 (0 : Int)), (.int .i64 (0 : Int))])) 9 (.agg [(.int .i64 (2 : Int)), (.int .i64 (4 : Int)), (.int .i64 (12 : Int)), (.int .i64 (0 : Int)), (.int .i64 (0 : Int))])) 10 (.agg [(.int .i64 (1 : Int)), (.int .i64 (3 : Int)), (.int .i64 (5 : Int)), (.int .i64 (0 : Int)), (.int .i64 (0 : Int))])) 11 (.agg [(.int .i64 (3 : Int)), (.int .i64 (4 : Int)), (.int .i64 (20 : Int)), (.int .i64 (0 : Int)), (.int .i64 (0 : Int))])) 12 (.agg [(.int .i64 (1 : Int)), (.int .i64 (3 : Int)), (.int .i64 (5 : Int)), (.int .i64 (0 : Int)), (.int .i64 (0 : Int)), (.int .i64 (2 : Int)), (.int .i64 (4 : Int)), (.int .i64 (12 : Int)), (.int .i64 (0 : Int)), (.int .i64 (0 : Int)), (.int .i64 (1 : Int)), (.int .i64 (3 : Int)), (.int .i64 (5 : Int)), (.int .i64 (0 : Int)), (.int .i64 (0 : Int)), (.int .i64 (3 : Int)), (.int .i64 (4 : Int)), (.int .i64 (20 : Int)), (.int .i64 (0 : Int)), (.int .i64 (0 : Int))])), [], h3⟩) ∧ (¬(a0 = (0 : Int)) → ((a0 = (1 : Int) → ∃ h4, ast ctx 56 h1 (.ptr p0 0) (.agg [(.int .i64 (1 : Int)), (.int .i64 (3 : Int)), (.int .i64 (5 : Int)), (.int .i64 (0 : Int)), (.int .i64 (0 : Int)), (.int .i64 (2 : Int)), (.int .i64 (4 : Int)), (.int .i64 (12 : Int)), (.int .i64 (0 : Int)), (.int .i64 (0 : Int)), (.int .i64 (1 : Int)), (.int .i64 (3 : Int)), (.int .i64 (5 : Int)), (.int .i64 (0 : Int)), (.int .i64 (0 : Int)), (.int .i64 (3 : Int)), (.int .i64 (4 : Int)), (.int .i64 (20 : Int)), (.int .i64 (0 : Int)), (.int .i64 (0 : Int))]) = some h4 ∧ (endW ctx ⟨18, [.cell 2 56], b21⟩ Q) .ret ⟨18, (Tb.set (Tb.set (Tb.set (Tb.set (Tb.set (Tb.set (Tb.set (Tb.set (Tb.set (Tb.set (Tb.set (Tb.set (Tb.leaf undefV) 0 (.int .i64 a0)) 2 (.ptr p0 0)) 3 (.int .i64 a0)) 5 (.bool false)) 4 (.bool false)) 7 (.bool true)) 6 (.bool true)) 8 (.agg [(.int .i64 (1 : Int)), (.int .i64 (3 : Int)), (.int .i64 (5 : Int)), (.int .i64 (0 : Int)), (.int .i64 (0 : Int))])) 9 (.agg [(.int .i64 (2 : Int)), (.int .i64 (4 : Int)), (.int .i64 (12 : Int)), (.int .i64 (0 : Int)), (.int .i64 (0 : Int))])) 10 (.agg [(.int .i64 (1 : Int)), (.int .i64 (3 : Int)), (.int .i64 (5 : Int)), (.int .i64 (0 : Int)), (.int .i64 (0 : Int))])) 11 (.agg [(.int .i64 (3 : Int)), (.int .i64 (4 : Int)), (.int .i64 (20 : Int)), (.int .i64 (0 : Int)), (.int .i64 (0 : Int))])) 12 (.agg [(.int .i64 (1 : Int)), (.int .i64 (3 : Int)), (.int .i64 (5 : Int)), (.int .i64 (0 : Int)), (.int .i64 (0 : Int)), (.int .i64 (2 : Int)), (.int .i64 (4 : Int)), (.int .i64 (12 : Int)), (.int .i64 (0 : Int)), (.int .i64 (0 : Int)), (.int .i64 (1 : Int)), (.int .i64 (3 : Int)), (.int .i64 (5 : Int)), (.int .i64 (0 : Int)), (.int .i64 (0 : Int)), (.int .i64 (3 : Int)), (.int .i64 (4 : Int)), (.int .i64 (20 : Int)), (.int .i64 (0 : Int)), (.int .i64 (0 : Int))])), [], h4⟩) ∧ (¬(a0 = (1 : Int)) → ∃ h5, ast ctx 56 h1 (.ptr p0 0) (.agg [(.int .i64 (3 : Int)), (.int .i64 (4 : Int)), (.int .i64 (10 : Int)), (.int .i64 (10 : Int)), (.int .i64 (1 : Int)), (.int .i64 (3 : Int)), (.int .i64 (4 : Int)), (.int .i64 (10 : Int)), (.int .i64 (10 : Int)), (.int .i64 (4 : Int)), (.int .i64 (4 : Int)), (.int .i64 (4 : Int)), (.int .i64 (14 : Int)), (.int .i64 (14 : Int)), (.int .i64 (4 : Int)), (.int .i64 (5 : Int)), (.int .i64 (4 : Int)), (.int .i64 (18 : Int)), (.int .i64 (18 : Int)), (.int .i64 (4 : Int))]) = some h5 ∧ (endW ctx ⟨18, [.cell 2 56], b21⟩ Q) .ret ⟨18, (Tb.set (Tb.set (Tb.set (Tb.set (Tb.set (Tb.set (Tb.set (Tb.set (Tb.set (Tb.set (Tb.set (Tb.set (Tb.leaf undefV) 0 (.int .i64 a0)) 2 (.ptr p0 0)) 3 (.int .i64 a0)) 5 (.bool false)) 4 (.bool false)) 7 (.bool false)) 6 (.bool false)) 13 (.agg [(.int .i64 (3 : Int)), (.int .i64 (4 : Int)), (.int .i64 (10 : Int)), (.int .i64 (10 : Int)), (.int .i64 (1 : Int))])) 14 (.agg [(.int .i64 (3 : Int)), (.int .i64 (4 : Int)), (.int .i64 (10 : Int)), (.int .i64 (10 : Int)), (.int .i64 (4 : Int))])) 15 (.agg [(.int .i64 (4 : Int)), (.int .i64 (4 : Int)), (.int .i64 (14 : Int)), (.int .i64 (14 : Int)), (.int .i64 (4 : Int))])) 16 (.agg [(.int .i64 (5 : Int)), (.int .i64 (4 : Int)), (.int .i64 (18 : Int)), (.int .i64 (18 : Int)), (.int .i64 (4 : Int))])) 17 (.agg [(.int .i64 (3 : Int)), (.int .i64 (4 : Int)), (.int .i64 (10 : Int)), (.int .i64 (10 : Int)), (.int .i64 (1 : Int)), (.int .i64 (3 : Int)), (.int .i64 (4 : Int)), (.int .i64 (10 : Int)), (.int .i64 (10 : Int)), (.int .i64 (4 : Int)), (.int .i64 (4 : Int)), (.int .i64 (4 : Int)), (.int .i64 (14 : Int)), (.int .i64 (14 : Int)), (.int .i64 (4 : Int)), (.int .i64 (5 : Int)), (.int .i64 (4 : Int)), (.int .i64 (18 : Int)), (.int .i64 (18 : Int)), (.int .i64 (4 : Int))])), [], h5⟩)))))) := by kernel_rfl

/- cheesepress/cheesepressref01.Low -/
def l24_0 : Code :=
 (.seq
  (.seq
   (.region 6 ⟨[O1 (some 15) 3 (.move (t 8)),
     O1 (some 16) 3 (.move (t 1)),
     O1 (some 17) 4 (.binOp .lss 3 (t 15) (t 16) 3)]⟩ false)
   (.cond (t 17)
    .skip
    (.exit 0)))
  (.seq
   (.block 1
    (.seq
     (.region 8 ⟨[O1 (some 20) 47 (.move (t 6)),
       O1 (some 21) 47 (.move (t 0)),
       O1 (some 22) 47 (.binOp .rem 47 (t 21) (.const (.int .u64 (.ofNat 2))) 47),
       O1 (some 23) 47 (.move (t 7)),
       O1 (some 24) 47 (.binOp .mul 47 (t 22) (t 23) 47),
       O1 (some 25) 47 (.binOp .add 47 (t 20) (t 24) 47),
       O1 (some 6) 47 (.assign (t 25))]⟩ false)
     (.seq
      (.region 9 ⟨[O1 (some 26) 47 (.move (t 0)),
        O1 (some 27) 47 (.binOp .quo 47 (t 26) (.const (.int .u64 (.ofNat 2))) 47),
        O1 (some 0) 47 (.assign (t 27))]⟩ false)
      (.region 10 ⟨[O1 (some 28) 47 (.move (t 7)),
        O1 (some 29) 47 (.binOp .mul 47 (t 28) (.const (.int .u64 (.ofNat 2))) 47),
        O1 (some 7) 47 (.assign (t 29))]⟩ false))))
   (.region 7 ⟨[O1 (some 18) 3 (.move (t 8)),
     O1 (some 19) 3 (.binOp .add 3 (t 18) (ci 1) 3),
     O1 (some 8) 3 (.assign (t 19))]⟩ false)))
def r24_1 : Code :=
 (.seq
  (.region 11 ⟨[O1 (some 30) 47 (.move (t 6)),
    O1 (some 4) 47 (.assign (t 30)),
    O1 (some 5) 23 (.assign (ci 0))]⟩ false)
  .ret)
def b24 : Code :=
 (.seq
  (.region 0 ⟨[O1 (some 4) 47 (.assign (.const (.int .u64 (.ofNat 0)))),
    O1 (some 5) 23 (.assign (ci 0))]⟩ false)
  (.seq
   (.seq
    (.region 1 ⟨[O1 (some 9) 3 (.move (t 1)),
      O1 (some 10) 4 (.binOp .lss 3 (t 9) (ci 0) 3),
      O1 (some 11) 4 (.move (t 10)),
      O2 (some 12) 3 (.move (t 1)) (2, false),
      O2 (some 13) 4 (.binOp .gtr 3 (t 12) (ci 64) 3) (2, false),
      O1 (some 14) 4 (.pick (t 11) (.const (.bool true)) (t 13))]⟩ false)
    (.cond (t 14)
     (.seq
      (.region 2 ⟨[O1 (some 4) 47 (.assign (.const (.int .u64 (.ofNat 0)))),
        O1 (some 5) 23 (.assign (ci 2))]⟩ false)
      .ret)
     .skip))
   (.seq
    (.region 3 ⟨[O1 (some 6) 47 (.assign (.const (.int .u64 (.ofNat 0))))]⟩ false)
    (.seq
     (.region 4 ⟨[O1 (some 7) 47 (.assign (.const (.int .u64 (.ofNat 1))))]⟩ false)
     (.seq
      (.seq
       (.region 5 ⟨[O1 (some 8) 3 (.assign (ci 0))]⟩ false)
       (.block 0
        (.loop l24_0)))
      r24_1)))))
theorem fn24 : (ctx.fn.get 24).map slimF = some ⟨31, [.tmp 4, .tmp 5], b24⟩ := by kernel_rfl
theorem vl24_0 (tm : Tm) (y8 : Int) (y1 : Int) (y6 : Int) (y0 : Int) (y7 : Int) (d : List AD) (h : H) (Q : AX → St → Prop) : wpC Tryz.prog ctx false l24_0 ⟨31, (Tb.set (Tb.set (Tb.set (Tb.set (Tb.set tm 8 (.int .i64 y8)) 1 (.int .i64 y1)) 6 (.int .u64 y6)) 0 (.int .u64 y0)) 7 (.int .u64 y7)), d, h⟩ (sealQ [4, 5, 8, 1, 6, 0, 7] Q) = (((y8 < y1 → ((2 : Int) ≠ 0 ∧ ((2 : Int) ≠ 0 ∧ (∀ tm', getV tm' 4 = getV tm 4 → getV tm' 5 = getV tm 5 → getV tm' 8 = (.int .i64 (w64 (y8 + (1 : Int)))) → getV tm' 1 = (.int .i64 y1) → getV tm' 6 = (.int .u64 (wrapF .u64 (y6 + (wrapF .u64 ((Int.tmod y0 (2 : Int)) * y7))))) → getV tm' 0 = (.int .u64 (wrapF .u64 (Int.tdiv y0 (2 : Int)))) → getV tm' 7 = (.int .u64 (wrapF .u64 (y7 * (2 : Int)))) → Q .normal ⟨31, tm', d, h⟩)))) ∧ (¬(y8 < y1) → (∀ tm', getV tm' 4 = getV tm 4 → getV tm' 5 = getV tm 5 → getV tm' 8 = (.int .i64 y8) → getV tm' 1 = (.int .i64 y1) → getV tm' 6 = (.int .u64 y6) → getV tm' 0 = (.int .u64 y0) → getV tm' 7 = (.int .u64 y7) → Q (.exit 0) ⟨31, tm', d, h⟩)))) := by kernel_rfl
theorem vr24_1 (tm : Tm) (y6 : Int) (d : List AD) (h : H) (Q : AX → St → Prop) : wpC Tryz.prog ctx false r24_1 ⟨31, (Tb.set tm 6 (.int .u64 y6)), d, h⟩ (sealQ [4, 5, 8, 1, 6, 0, 7] Q) = ((∀ tm', getV tm' 4 = (.int .u64 y6) → getV tm' 5 = (.int .i64 (0 : Int)) → getV tm' 8 = getV tm 8 → getV tm' 1 = getV tm 1 → getV tm' 6 = (.int .u64 y6) → getV tm' 0 = getV tm 0 → getV tm' 7 = getV tm 7 → Q .ret ⟨31, tm', d, h⟩)) := by kernel_rfl
theorem vb24 (a0 : Int) (a1 : Int) (h : H) (Q : V → H → Prop) : wpC Tryz.prog ctx false b24 ⟨31, setArgs [(.int .u64 a0), (.int .i64 a1)] 0 (Tb.leaf undefV), [], h⟩ (endW ctx ⟨31, [.tmp 4, .tmp 5], b24⟩ Q) = (((a1 < (0 : Int) → Q (.tuple [(.int .u64 (0 : Int)), (.int .i64 (2 : Int))]) h) ∧ (¬(a1 < (0 : Int)) → (((64 : Int) < a1 → Q (.tuple [(.int .u64 (0 : Int)), (.int .i64 (2 : Int))]) h) ∧ (¬((64 : Int) < a1) → wpC Tryz.prog ctx false (.loop l24_0) ⟨31, (Tb.set (Tb.set (Tb.set (Tb.set (Tb.set (Tb.set (Tb.set (Tb.set (Tb.set (Tb.set (Tb.set (Tb.set (Tb.set (Tb.leaf undefV) 0 (.int .u64 a0)) 1 (.int .i64 a1)) 4 (.int .u64 (0 : Int))) 5 (.int .i64 (0 : Int))) 9 (.int .i64 a1)) 10 (.bool false)) 11 (.bool false)) 12 (.int .i64 a1)) 13 (.bool false)) 14 (.bool false)) 6 (.int .u64 (0 : Int))) 7 (.int .u64 (1 : Int))) 8 (.int .i64 (0 : Int))), [], h⟩ (fun e s1 => (thenC (fun s1 => wpC Tryz.prog ctx false r24_1 s1 (endW ctx ⟨31, [.tmp 4, .tmp 5], b24⟩ Q)) (endW ctx ⟨31, [.tmp 4, .tmp 5], b24⟩ Q)) (exitB 0 e) s1)))))) := by kernel_rfl

/- cheesepress/ints.Little -/
def b33 : Code :=
 (.seq
  (.region 0 ⟨[O1 (some 4) 9 (.assign (cs [])),
    O1 (some 5) 23 (.assign (ci 0))]⟩ false)
  (.seq
   (.seq
    (.region 1 ⟨[O1 (some 6) 3 (.move (t 1)),
      O1 (some 7) 4 (.binOp .lss 3 (t 6) (ci 1) 3),
      O1 (some 8) 4 (.move (t 7)),
      O2 (some 9) 3 (.move (t 1)) (2, false),
      O2 (some 10) 4 (.binOp .gtr 3 (t 9) (ci 8) 3) (2, false),
      O1 (some 11) 4 (.pick (t 8) (.const (.bool true)) (t 10)),
      O1 (some 12) 4 (.move (t 11)),
      O2 (some 13) 3 (.move (t 1)) (6, false),
      O2 (some 14) 4 (.binOp .lss 3 (t 13) (ci 8) 3) (6, false),
      O2 (some 15) 4 (.move (t 14)) (6, false),
      O2 (some 16) 47 (.move (t 0)) (9, true),
      O2 (some 17) 3 (.move (t 1)) (9, true),
      O2 (some 18) 3 (.binOp .mul 3 (ci 8) (t 17) 3) (9, true),
      O2 (some 19) 47 (.binOp .shr 47 (t 16) (t 18) 3) (9, true),
      O2 (some 20) 4 (.binOp .neq 47 (t 19) (.const (.int .u64 (.ofNat 0))) 47) (9, true),
      O2 (some 21) 4 (.pick (t 15) (t 20) (.const (.bool false))) (6, false),
      O1 (some 22) 4 (.pick (t 12) (.const (.bool true)) (t 21))]⟩ false)
    (.cond (t 22)
     (.seq
      (.region 2 ⟨[O1 (some 4) 9 (.assign (cs [])),
        O1 (some 5) 23 (.assign (ci 2))]⟩ false)
      .ret)
     .skip))
   (.seq
    (.region 3 ⟨[O1 (some 23) 47 (.move (t 0)),
      O1 (some 24) 3 (.move (t 1)),
      O1 (some 25) 9 (.call ⟨(.value (.func 53)), #[(t 23), (t 24)], #[47, 3]⟩),
      O1 (some 4) 9 (.assign (t 25)),
      O1 (some 5) 23 (.assign (ci 0))]⟩ false)
    .ret)))
theorem fn33 : (ctx.fn.get 33).map slimF = some ⟨26, [.tmp 4, .tmp 5], b33⟩ := by kernel_rfl
theorem vb33 (a0 : Int) (a1 : Int) (h : H) (Q : V → H → Prop) : wpC Tryz.prog ctx false b33 ⟨26, setArgs [(.int .u64 a0), (.int .i64 a1)] 0 (Tb.leaf undefV), [], h⟩ (endW ctx ⟨26, [.tmp 4, .tmp 5], b33⟩ Q) = (((a1 < (1 : Int) → Q (.tuple [(.str []), (.int .i64 (2 : Int))]) h) ∧ (¬(a1 < (1 : Int)) → (((8 : Int) < a1 → Q (.tuple [(.str []), (.int .i64 (2 : Int))]) h) ∧ (¬((8 : Int) < a1) → ((a1 < (8 : Int) → ∃ (x0 : Int), intB .shr .u64 a0 (w64 ((8 : Int) * a1)) = some (.int .u64 x0) ∧ ((x0 ≠ (0 : Int) → Q (.tuple [(.str []), (.int .i64 (2 : Int))]) h) ∧ (¬(x0 ≠ (0 : Int)) → RF Tryz.prog ctx 53 [(.int .u64 a0), (.int .i64 a1)] h (fun v1 h2 => ∃ (l3 : List UInt8), v1 = (.str l3) ∧ Q (.tuple [(.str l3), (.int .i64 (0 : Int))]) h2)))) ∧ (¬(a1 < (8 : Int)) → RF Tryz.prog ctx 53 [(.int .u64 a0), (.int .i64 a1)] h (fun v4 h5 => ∃ (l6 : List UInt8), v4 = (.str l6) ∧ Q (.tuple [(.str l6), (.int .i64 (0 : Int))]) h5)))))))) := by kernel_rfl

/- cheesepress/cursor.of -/
def b34 : Code :=
 (.seq
  (.region 0 ⟨[O1 (some 1) 0 (.box 50 (t 0)),
    O1 (some 2) 80 (.assign (.const (.pointer none)))]⟩ false)
  (.seq
   (.seq
    (.region 1 ⟨[O1 (some 3) 50 (.load 50 (t 1)),
      O1 (some 4) 4 (.call ⟨(.value (.func 54)), #[(t 3)], #[50]⟩),
      O1 (some 5) 4 (.unOp .not 4 (t 4))]⟩ false)
    (.cond (t 5)
     (.region 2 ⟨[O1 (some 6) 27 (.build 27 #[(0, (ci 10))]),
       O1 (some 7) 50 (.build 50 #[(2, (t 6))]),
       O1 none 0 (.store 50 (t 1) (t 7))]⟩ false)
     .skip))
   (.seq
    (.region 3 ⟨[O1 (some 8) 50 (.load 50 (t 1)),
      O1 (some 9) 86 (.build 86 #[(0, (t 8))]),
      O1 (some 10) 80 (.box 86 (t 9)),
      O1 (some 2) 80 (.assign (t 10))]⟩ false)
    .ret)))
theorem fn34 : (ctx.fn.get 34).map slimF = some ⟨11, [.tmp 2], b34⟩ := by kernel_rfl
theorem vb34 (a0_0 : List UInt8) (a0_1 : Int) (a0_2 : Int) (a0_3 : Int) (h : H) (Q : V → H → Prop) : wpC Tryz.prog ctx false b34 ⟨11, setArgs [(.agg [(.str a0_0), (.int .i64 a0_1), (.int .i64 a0_2), (.int .i64 a0_3)])] 0 (Tb.leaf undefV), [], h⟩ (endW ctx ⟨11, [.tmp 2], b34⟩ Q) = ((h.next < T.top ∧ ∀ p0 h1, p0 = h.next → h1 = h.new (.cells (.ls [(.str a0_0), (.int .i64 a0_1), (.int .i64 a0_2), (.int .i64 a0_3)]) ⟨0, 51, 0⟩ true false) → ∃ (l2 : List UInt8) (x3 : Int) (x4 : Int) (x5 : Int), ald ctx 50 h1 (.ptr p0 0) = some (.agg [(.str l2), (.int .i64 x3), (.int .i64 x4), (.int .i64 x5)]) ∧ RF Tryz.prog ctx 54 [(.agg [(.str l2), (.int .i64 x3), (.int .i64 x4), (.int .i64 x5)])] h1 (fun v6 h7 => ∃ (b8 : Bool), v6 = (.bool b8) ∧ ((b8 = true → ∃ (l9 : List UInt8) (x10 : Int) (x11 : Int) (x12 : Int), ald ctx 50 h7 (.ptr p0 0) = some (.agg [(.str l9), (.int .i64 x10), (.int .i64 x11), (.int .i64 x12)]) ∧ (h7.next < T.top ∧ ∀ p13 h14, p13 = h7.next → h14 = h7.new (.cells (.ls [(.str l9), (.int .i64 x10), (.int .i64 x11), (.int .i64 x12)]) ⟨0, 87, 0⟩ true false) → Q (.ptr p13 0) h14)) ∧ (b8 = false → ∃ h15, ast ctx 50 h7 (.ptr p0 0) (.agg [(.str []), (.int .i64 (0 : Int)), (.int .i64 (10 : Int)), (.int .i64 (0 : Int))]) = some h15 ∧ ∃ (l16 : List UInt8) (x17 : Int) (x18 : Int) (x19 : Int), ald ctx 50 h15 (.ptr p0 0) = some (.agg [(.str l16), (.int .i64 x17), (.int .i64 x18), (.int .i64 x19)]) ∧ (h15.next < T.top ∧ ∀ p20 h21, p20 = h15.next → h21 = h15.new (.cells (.ls [(.str l16), (.int .i64 x17), (.int .i64 x18), (.int .i64 x19)]) ⟨0, 87, 0⟩ true false) → Q (.ptr p20 0) h21)))))) := by kernel_rfl

/- cheesepress/cursor.number -/
def l36_0 : Code :=
 (.seq
  (.region 8 ⟨[O1 (some 27) 4 (.binOp .lss 3 (t 26) (t 25) 3)]⟩ false)
  (.seq
   (.cond (t 27)
    .skip
    (.exit 4))
   (.seq
    (.block 5
     (.seq
      (.region 9 ⟨[O1 (some 28) 3 (.move (t 26)),
        O1 (some 4) 3 (.assign (t 28))]⟩ false)
      (.region 10 ⟨[O1 (some 29) 47 (.move (t 3)),
        O1 (some 30) 9 (.move (t 0)),
        O1 (some 31) 3 (.move (t 4)),
        O1 (some 32) 5 (.index 9 (t 30) (t 31)),
        O1 (some 33) 47 (.convert 5 47 (t 32)),
        O1 (some 34) 3 (.move (t 4)),
        O1 (some 35) 3 (.binOp .mul 3 (ci 8) (t 34) 3),
        O1 (some 36) 47 (.binOp .shl 47 (t 33) (t 35) 3),
        O1 (some 37) 47 (.binOp .or 47 (t 29) (t 36) 47),
        O1 (some 3) 47 (.assign (t 37))]⟩ false)))
    (.region 11 ⟨[O1 (some 38) 3 (.binOp .add 3 (t 26) (ci 1) 3),
      O1 (some 26) 3 (.move (t 38))]⟩ false))))
def r36_1 : Code :=
 (.exit 0)
def r36_2 : Code :=
 (.seq
  (.region 12 ⟨[O1 (some 39) 47 (.move (t 3)),
    O1 (some 2) 47 (.assign (t 39))]⟩ false)
  .ret)
def b36 : Code :=
 (.seq
  (.region 0 ⟨[O1 (some 2) 47 (.assign (.const (.int .u64 (.ofNat 0))))]⟩ false)
  (.seq
   (.region 1 ⟨[O1 (some 3) 47 (.assign (.const (.int .u64 (.ofNat 0))))]⟩ false)
   (.seq
    (.seq
     (.region 2 ⟨[O1 (some 5) 9 (.move (t 0)),
       O1 (some 6) 3 (.call ⟨(.builtin .len), #[(t 5)], #[9]⟩)]⟩ false)
     (.block 0
      (.seq
       (.block 3
        (.seq
         (.block 2
          (.seq
           (.block 1
            (.seq
             (.seq
              (.seq
               (.region 3 ⟨[O1 (some 8) 4 (.binOp .eql 3 (t 6) (ci 8) 3),
                 O1 (some 7) 4 (.assign (t 8))]⟩ false)
               (.cond (t 7)
                (.exit 1)
                .skip))
              (.seq
               (.region 4 ⟨[O1 (some 10) 4 (.binOp .eql 3 (t 6) (ci 7) 3),
                 O1 (some 9) 4 (.assign (t 10))]⟩ false)
               (.cond (t 9)
                (.exit 2)
                .skip)))
             (.exit 3)))
           (.region 5 ⟨[O1 (some 11) 47 (.move (t 3)),
             O1 (some 12) 9 (.move (t 0)),
             O1 (some 13) 5 (.index 9 (t 12) (ci 7)),
             O1 (some 14) 47 (.convert 5 47 (t 13)),
             O1 (some 15) 47 (.binOp .shl 47 (t 14) (.const (.int .u64 (.ofNat 56))) 46),
             O1 (some 16) 47 (.binOp .or 47 (t 11) (t 15) 47),
             O1 (some 3) 47 (.assign (t 16))]⟩ false)))
         (.region 6 ⟨[O1 (some 17) 47 (.move (t 3)),
           O1 (some 18) 9 (.move (t 0)),
           O1 (some 19) 5 (.index 9 (t 18) (ci 6)),
           O1 (some 20) 47 (.convert 5 47 (t 19)),
           O1 (some 21) 47 (.binOp .shl 47 (t 20) (.const (.int .u64 (.ofNat 48))) 46),
           O1 (some 22) 47 (.binOp .or 47 (t 17) (t 21) 47),
           O1 (some 3) 47 (.assign (t 22))]⟩ false)))
       (.seq
        (.seq
         (.region 7 ⟨[O1 (some 23) 9 (.move (t 0)),
           O1 (some 24) 3 (.call ⟨(.builtin .len), #[(t 23)], #[9]⟩),
           O1 (some 25) 3 (.call ⟨(.builtin .min), #[(t 24), (ci 6)], #[3, 3]⟩),
           O1 (some 26) 3 (.move (ci 0))]⟩ false)
         (.block 4
          (.loop l36_0)))
        r36_1))))
    r36_2)))
theorem fn36 : (ctx.fn.get 36).map slimF = some ⟨40, [.tmp 2], b36⟩ := by kernel_rfl
theorem vl36_0 (tm : Tm) (y26 : Int) (y25 : Int) (y3 : Int) (y0 : List UInt8) (d : List AD) (h : H) (Q : AX → St → Prop) : wpC Tryz.prog ctx false l36_0 ⟨40, (Tb.set (Tb.set (Tb.set (Tb.set tm 26 (.int .i64 y26)) 25 (.int .i64 y25)) 3 (.int .u64 y3)) 0 (.str y0)), d, h⟩ (sealQ [2, 26, 25, 3, 0] Q) = (((y26 < y25 → ∃ (x0 : Int), aindex ctx 9 (.str y0) (.int .i64 y26) = some (.int .u8 x0) ∧ ∃ (x1 : Int), intB .shl .u64 (wrapF .u64 (x0)) (w64 ((8 : Int) * y26)) = some (.int .u64 x1) ∧ ∃ (x2 : Int), intB .or .u64 y3 x1 = some (.int .u64 x2) ∧ (∀ tm', getV tm' 2 = getV tm 2 → getV tm' 26 = (.int .i64 (w64 (y26 + (1 : Int)))) → getV tm' 25 = (.int .i64 y25) → getV tm' 3 = (.int .u64 x2) → getV tm' 0 = (.str y0) → Q .normal ⟨40, tm', d, h⟩)) ∧ (¬(y26 < y25) → (∀ tm', getV tm' 2 = getV tm 2 → getV tm' 26 = (.int .i64 y26) → getV tm' 25 = (.int .i64 y25) → getV tm' 3 = (.int .u64 y3) → getV tm' 0 = (.str y0) → Q (.exit 4) ⟨40, tm', d, h⟩)))) := by kernel_rfl
theorem vr36_1 (tm : Tm)  (d : List AD) (h : H) (Q : AX → St → Prop) : wpC Tryz.prog ctx false r36_1 ⟨40, tm, d, h⟩ (sealQ [2, 26, 25, 3, 0] Q) = ((∀ tm', getV tm' 2 = getV tm 2 → getV tm' 26 = getV tm 26 → getV tm' 25 = getV tm 25 → getV tm' 3 = getV tm 3 → getV tm' 0 = getV tm 0 → Q (.exit 0) ⟨40, tm', d, h⟩)) := by kernel_rfl
theorem vr36_2 (tm : Tm) (y3 : Int) (d : List AD) (h : H) (Q : AX → St → Prop) : wpC Tryz.prog ctx false r36_2 ⟨40, (Tb.set tm 3 (.int .u64 y3)), d, h⟩ (sealQ [2, 26, 25, 3, 0] Q) = ((∀ tm', getV tm' 2 = (.int .u64 y3) → getV tm' 26 = getV tm 26 → getV tm' 25 = getV tm 25 → getV tm' 3 = (.int .u64 y3) → getV tm' 0 = getV tm 0 → Q .ret ⟨40, tm', d, h⟩)) := by kernel_rfl
theorem vb36 (a0 : List UInt8) (h : H) (Q : V → H → Prop) : wpC Tryz.prog ctx false b36 ⟨40, setArgs [(.str a0)] 0 (Tb.leaf undefV), [], h⟩ (endW ctx ⟨40, [.tmp 2], b36⟩ Q) = ((((Int.ofNat (List.length a0)) = (8 : Int) → ∃ (x0 : Int), aindex ctx 9 (.str a0) (.int .i64 (7 : Int)) = some (.int .u8 x0) ∧ ∃ (x1 : Int), intB .shl .u64 (wrapF .u64 (x0)) (56 : Int) = some (.int .u64 x1) ∧ ∃ (x2 : Int), intB .or .u64 (0 : Int) x1 = some (.int .u64 x2) ∧ ∃ (x3 : Int), aindex ctx 9 (.str a0) (.int .i64 (6 : Int)) = some (.int .u8 x3) ∧ ∃ (x4 : Int), intB .shl .u64 (wrapF .u64 (x3)) (48 : Int) = some (.int .u64 x4) ∧ ∃ (x5 : Int), intB .or .u64 x2 x4 = some (.int .u64 x5) ∧ wpC Tryz.prog ctx false (.loop l36_0) ⟨40, (Tb.set (Tb.set (Tb.set (Tb.set (Tb.set (Tb.set (Tb.set (Tb.set (Tb.set (Tb.set (Tb.set (Tb.set (Tb.set (Tb.set (Tb.set (Tb.set (Tb.set (Tb.set (Tb.set (Tb.set (Tb.set (Tb.set (Tb.set (Tb.set (Tb.set (Tb.leaf undefV) 0 (.str a0)) 2 (.int .u64 (0 : Int))) 3 (.int .u64 (0 : Int))) 5 (.str a0)) 6 (.int .i64 (Int.ofNat (List.length a0)))) 8 (.bool true)) 7 (.bool true)) 11 (.int .u64 (0 : Int))) 12 (.str a0)) 13 (.int .u8 x0)) 14 (.int .u64 (wrapF .u64 (x0)))) 15 (.int .u64 x1)) 16 (.int .u64 x2)) 3 (.int .u64 x2)) 17 (.int .u64 x2)) 18 (.str a0)) 19 (.int .u8 x3)) 20 (.int .u64 (wrapF .u64 (x3)))) 21 (.int .u64 x4)) 22 (.int .u64 x5)) 3 (.int .u64 x5)) 23 (.str a0)) 24 (.int .i64 (Int.ofNat (List.length a0)))) 25 (.int .i64 (min (Int.ofNat (List.length a0)) (6 : Int)))) 26 (.int .i64 (0 : Int))), [], h⟩ (fun e s1 => (thenC (fun s1 => wpC Tryz.prog ctx false r36_1 s1 (fun e s1 => (thenC (fun s1 => wpC Tryz.prog ctx false r36_2 s1 (endW ctx ⟨40, [.tmp 2], b36⟩ Q)) (endW ctx ⟨40, [.tmp 2], b36⟩ Q)) (exitB 0 e) s1)) (fun e s1 => (thenC (fun s1 => wpC Tryz.prog ctx false r36_2 s1 (endW ctx ⟨40, [.tmp 2], b36⟩ Q)) (endW ctx ⟨40, [.tmp 2], b36⟩ Q)) (exitB 0 e) s1)) (exitB 4 e) s1)) ∧ (¬((Int.ofNat (List.length a0)) = (8 : Int)) → (((Int.ofNat (List.length a0)) = (7 : Int) → ∃ (x6 : Int), aindex ctx 9 (.str a0) (.int .i64 (6 : Int)) = some (.int .u8 x6) ∧ ∃ (x7 : Int), intB .shl .u64 (wrapF .u64 (x6)) (48 : Int) = some (.int .u64 x7) ∧ ∃ (x8 : Int), intB .or .u64 (0 : Int) x7 = some (.int .u64 x8) ∧ wpC Tryz.prog ctx false (.loop l36_0) ⟨40, (Tb.set (Tb.set (Tb.set (Tb.set (Tb.set (Tb.set (Tb.set (Tb.set (Tb.set (Tb.set (Tb.set (Tb.set (Tb.set (Tb.set (Tb.set (Tb.set (Tb.set (Tb.set (Tb.set (Tb.set (Tb.leaf undefV) 0 (.str a0)) 2 (.int .u64 (0 : Int))) 3 (.int .u64 (0 : Int))) 5 (.str a0)) 6 (.int .i64 (Int.ofNat (List.length a0)))) 8 (.bool false)) 7 (.bool false)) 10 (.bool true)) 9 (.bool true)) 17 (.int .u64 (0 : Int))) 18 (.str a0)) 19 (.int .u8 x6)) 20 (.int .u64 (wrapF .u64 (x6)))) 21 (.int .u64 x7)) 22 (.int .u64 x8)) 3 (.int .u64 x8)) 23 (.str a0)) 24 (.int .i64 (Int.ofNat (List.length a0)))) 25 (.int .i64 (min (Int.ofNat (List.length a0)) (6 : Int)))) 26 (.int .i64 (0 : Int))), [], h⟩ (fun e s1 => (thenC (fun s1 => wpC Tryz.prog ctx false r36_1 s1 (fun e s1 => (thenC (fun s1 => wpC Tryz.prog ctx false r36_2 s1 (endW ctx ⟨40, [.tmp 2], b36⟩ Q)) (endW ctx ⟨40, [.tmp 2], b36⟩ Q)) (exitB 0 e) s1)) (fun e s1 => (thenC (fun s1 => wpC Tryz.prog ctx false r36_2 s1 (endW ctx ⟨40, [.tmp 2], b36⟩ Q)) (endW ctx ⟨40, [.tmp 2], b36⟩ Q)) (exitB 0 e) s1)) (exitB 4 e) s1)) ∧ (¬((Int.ofNat (List.length a0)) = (7 : Int)) → wpC Tryz.prog ctx false (.loop l36_0) ⟨40, (Tb.set (Tb.set (Tb.set (Tb.set (Tb.set (Tb.set (Tb.set (Tb.set (Tb.set (Tb.set (Tb.set (Tb.set (Tb.set (Tb.leaf undefV) 0 (.str a0)) 2 (.int .u64 (0 : Int))) 3 (.int .u64 (0 : Int))) 5 (.str a0)) 6 (.int .i64 (Int.ofNat (List.length a0)))) 8 (.bool false)) 7 (.bool false)) 10 (.bool false)) 9 (.bool false)) 23 (.str a0)) 24 (.int .i64 (Int.ofNat (List.length a0)))) 25 (.int .i64 (min (Int.ofNat (List.length a0)) (6 : Int)))) 26 (.int .i64 (0 : Int))), [], h⟩ (fun e s1 => (thenC (fun s1 => wpC Tryz.prog ctx false r36_1 s1 (fun e s1 => (thenC (fun s1 => wpC Tryz.prog ctx false r36_2 s1 (endW ctx ⟨40, [.tmp 2], b36⟩ Q)) (endW ctx ⟨40, [.tmp 2], b36⟩ Q)) (exitB 0 e) s1)) (fun e s1 => (thenC (fun s1 => wpC Tryz.prog ctx false r36_2 s1 (endW ctx ⟨40, [.tmp 2], b36⟩ Q)) (endW ctx ⟨40, [.tmp 2], b36⟩ Q)) (exitB 0 e) s1)) (exitB 4 e) s1)))))) := by kernel_rfl

/- (*cheesepress/cursor.reader).bytes$1 -/
def b55 : Code :=
 (.seq
  (.region 0 ⟨[O1 (some 2) 0 (.fieldAddr 27 (t 0) 0),
    O1 (some 3) 23 (.load 23 (t 2)),
    O1 (some 4) 4 (.binOp .neq 23 (t 3) (ci 0) 23),
    O1 (some 5) 4 (.move (t 4)),
    O2 (some 6) 80 (.load 80 (t 1)) (3, true),
    O2 (some 7) 4 (.call ⟨(.value (.func 38)), #[(t 6)], #[80]⟩) (3, true),
    O2 (some 8) 4 (.unOp .not 4 (t 7)) (3, true),
    O1 (some 9) 4 (.pick (t 5) (t 8) (.const (.bool false)))]⟩ false)
  (.cond (t 9)
   (.region 1 ⟨[O1 (some 10) 80 (.load 80 (t 1)),
     O1 (some 11) 27 (.load 27 (t 0)),
     O1 (some 12) 0 (.nilCheck (t 10)),
     O1 (some 13) 0 (.fieldAddr 86 (t 12) 0),
     O1 (some 14) 0 (.fieldAddr 50 (t 13) 2),
     O1 none 0 (.store 27 (t 14) (t 11))]⟩ false)
   .skip))
theorem fn55 : (ctx.fn.get 55).map slimF = some ⟨15, [], b55⟩ := by kernel_rfl
theorem vb55 (a0 : V) (a1 : V) (h : H) (Q : V → H → Prop) : wpC Tryz.prog ctx false b55 ⟨15, setArgs [a0, a1] 0 (Tb.leaf undefV), [], h⟩ (endW ctx ⟨15, [], b55⟩ Q) = (wpFA ctx 27 0 h a0 (fun v0 h1 => ∃ (x2 : Int), ald ctx 23 h1 v0 = some (.int .i64 x2) ∧ ((x2 ≠ (0 : Int) → ∃ (v3 : V), ald ctx 80 h1 a1 = some v3 ∧ RF Tryz.prog ctx 38 [v3] h1 (fun v4 h5 => ∃ (b6 : Bool), v4 = (.bool b6) ∧ ((b6 = true → Q (.tuple []) h5) ∧ (b6 = false → ∃ (v7 : V), ald ctx 80 h5 a1 = some v7 ∧ ∃ (x8 : Int) (x9 : Int), ald ctx 27 h5 a0 = some (.agg [(.int .i64 x8), (.int .i64 x9)]) ∧ ∃ v10 h11, aop ctx ⟨none, .nilCheck (t 0), 0, "", #[], none⟩ (fun _ => some v7) h5 = some (.val v10 h11) ∧ wpFA ctx 86 0 h11 v10 (fun v12 h13 => wpFA ctx 50 2 h13 v12 (fun v14 h15 => ∃ h16, ast ctx 27 h15 v14 (.agg [(.int .i64 x8), (.int .i64 x9)]) = some h16 ∧ Q (.tuple []) h16)))))) ∧ (¬(x2 ≠ (0 : Int)) → Q (.tuple []) h1)))) := by kernel_rfl

/- cheesepress/cursor.valid$1 -/
def b75 : Code :=
 (.seq
  (.region 0 ⟨[O1 (some 3) 4 (.assign (.const (.bool false)))]⟩ false)
  (.seq
   (.region 1 ⟨[O1 (some 4) 3 (.move (t 0)),
     O1 (some 5) 4 (.binOp .geq 3 (t 4) (ci 0) 3),
     O1 (some 6) 4 (.move (t 5)),
     O2 (some 7) 3 (.move (t 0)) (2, true),
     O2 (some 8) 0 (.fieldAddr 50 (t 1) 0) (2, true),
     O2 (some 9) 9 (.load 9 (t 8)) (2, true),
     O2 (some 10) 3 (.call ⟨(.builtin .len), #[(t 9)], #[9]⟩) (2, true),
     O2 (some 11) 4 (.binOp .leq 3 (t 7) (t 10) 3) (2, true),
     O1 (some 12) 4 (.pick (t 6) (t 11) (.const (.bool false))),
     O1 (some 3) 4 (.assign (t 12))]⟩ false)
   .ret))
theorem fn75 : (ctx.fn.get 75).map slimF = some ⟨13, [.tmp 3], b75⟩ := by kernel_rfl
theorem vb75 (a0 : Int) (a1 : V) (h : H) (Q : V → H → Prop) : wpC Tryz.prog ctx false b75 ⟨13, setArgs [(.int .i64 a0), a1] 0 (Tb.leaf undefV), [], h⟩ (endW ctx ⟨13, [.tmp 3], b75⟩ Q) = ((((0 : Int) ≤ a0 → wpFA ctx 50 0 h a1 (fun v0 h1 => ∃ (l2 : List UInt8), ald ctx 9 h1 v0 = some (.str l2) ∧ ((a0 ≤ (Int.ofNat (List.length l2)) → Q (.bool true) h1) ∧ (¬(a0 ≤ (Int.ofNat (List.length l2))) → Q (.bool false) h1)))) ∧ (¬((0 : Int) ≤ a0) → Q (.bool false) h))) := by kernel_rfl

end Go.Proofs.YtamddelaigcnkaaGreat

namespace Go.Proofs.YtamddelaigcnkaaGreat
open Go.Sim

/- cheesepress/lits.Head -/
def b6 : Code :=
 (.seq
  (.region 0 ⟨[O1 (some 6) 9 (.assign (cs [])),
    O1 (some 7) 23 (.assign (ci 0))]⟩ false)
  (.seq
   (.seq
    (.region 1 ⟨[O1 (some 10) 3 (.move (t 0)),
      O1 (some 11) 4 (.binOp .lss 3 (t 10) (ci 0) 3),
      O1 (some 12) 4 (.move (t 11)),
      O2 (some 13) 3 (.move (t 0)) (2, false),
      O2 (some 14) 4 (.binOp .gtr 3 (t 13) (ci 3) 3) (2, false),
      O1 (some 15) 4 (.pick (t 12) (.const (.bool true)) (t 14)),
      O1 (some 16) 4 (.move (t 15)),
      O2 (some 17) 3 (.move (t 1)) (6, false),
      O2 (some 18) 4 (.binOp .lss 3 (t 17) (ci 0) 3) (6, false),
      O1 (some 19) 4 (.pick (t 16) (.const (.bool true)) (t 18)),
      O1 (some 20) 4 (.move (t 19)),
      O2 (some 21) 3 (.move (t 1)) (10, false),
      O2 (some 22) 4 (.binOp .gtr 3 (t 21) (ci 131072) 3) (10, false),
      O1 (some 23) 4 (.pick (t 20) (.const (.bool true)) (t 22)),
      O1 (some 24) 4 (.move (t 23)),
      O2 (some 25) 3 (.move (t 2)) (14, false),
      O2 (some 26) 4 (.binOp .lss 3 (t 25) (ci 0) 3) (14, false),
      O1 (some 27) 4 (.pick (t 24) (.const (.bool true)) (t 26)),
      O1 (some 28) 4 (.move (t 27)),
      O2 (some 29) 3 (.move (t 2)) (18, false),
      O2 (some 30) 4 (.binOp .gtr 3 (t 29) (ci 131072) 3) (18, false),
      O1 (some 31) 4 (.pick (t 28) (.const (.bool true)) (t 30)),
      O1 (some 32) 4 (.move (t 31)),
      O2 (some 33) 3 (.move (t 0)) (22, false),
      O2 (some 34) 4 (.binOp .lss 39 (t 33) (ci 2) 39) (22, false),
      O2 (some 35) 4 (.move (t 34)) (22, false),
      O2 (some 36) 3 (.move (t 2)) (25, true),
      O2 (some 37) 4 (.binOp .neq 3 (t 36) (ci 0) 3) (25, true),
      O2 (some 38) 4 (.pick (t 35) (t 37) (.const (.bool false))) (22, false),
      O1 (some 39) 4 (.pick (t 32) (.const (.bool true)) (t 38))]⟩ false)
    (.cond (t 39)
     (.seq
      (.region 2 ⟨[O1 (some 6) 9 (.assign (cs [])),
        O1 (some 7) 23 (.assign (ci 2))]⟩ false)
      .ret)
     .skip))
   (.seq
    (.region 3 ⟨[O1 (some 41) 3 (.move (t 0)),
      O1 (some 42) 3 (.move (t 1)),
      O1 (some 43) 3 (.move (t 2)),
      O1 (some 44) 40 (.call ⟨(.value (.func 16)), #[(t 41), (t 42), (t 43)], #[39, 3, 3]⟩),
      O1 (some 40) 40 (.move (t 44)),
      O1 (some 45) 9 (.extract (t 40) 0),
      O1 (some 46) 4 (.extract (t 40) 1),
      O1 (some 8) 9 (.assign (t 45)),
      O1 (some 9) 4 (.assign (t 46))]⟩ false)
    (.seq
     (.seq
      (.region 4 ⟨[O1 (some 47) 4 (.move (t 9)),
        O1 (some 48) 4 (.unOp .not 4 (t 47))]⟩ false)
      (.cond (t 48)
       (.seq
        (.region 5 ⟨[O1 (some 6) 9 (.assign (cs [])),
          O1 (some 7) 23 (.assign (ci 2))]⟩ false)
        .ret)
       .skip))
     (.seq
      (.region 6 ⟨[O1 (some 49) 9 (.move (t 8)),
        O1 (some 6) 9 (.assign (t 49)),
        O1 (some 7) 23 (.assign (ci 0))]⟩ false)
      .ret)))))
theorem fn6 : (ctx.fn.get 6).map slimF = some ⟨50, [.tmp 6, .tmp 7], b6⟩ := by kernel_rfl
theorem vb6 (a0 : Int) (a1 : Int) (a2 : Int) (h : H) (Q : V → H → Prop) : wpC Tryz.prog ctx false b6 ⟨50, setArgs [(.int .i64 a0), (.int .i64 a1), (.int .i64 a2)] 0 (Tb.leaf undefV), [], h⟩ (endW ctx ⟨50, [.tmp 6, .tmp 7], b6⟩ Q) = (((a0 < (0 : Int) → Q (.tuple [(.str []), (.int .i64 (2 : Int))]) h) ∧ (¬(a0 < (0 : Int)) → (((3 : Int) < a0 → Q (.tuple [(.str []), (.int .i64 (2 : Int))]) h) ∧ (¬((3 : Int) < a0) → ((a1 < (0 : Int) → Q (.tuple [(.str []), (.int .i64 (2 : Int))]) h) ∧ (¬(a1 < (0 : Int)) → (((131072 : Int) < a1 → Q (.tuple [(.str []), (.int .i64 (2 : Int))]) h) ∧ (¬((131072 : Int) < a1) → ((a2 < (0 : Int) → Q (.tuple [(.str []), (.int .i64 (2 : Int))]) h) ∧ (¬(a2 < (0 : Int)) → (((131072 : Int) < a2 → Q (.tuple [(.str []), (.int .i64 (2 : Int))]) h) ∧ (¬((131072 : Int) < a2) → ((a0 < (2 : Int) → ((a2 ≠ (0 : Int) → Q (.tuple [(.str []), (.int .i64 (2 : Int))]) h) ∧ (¬(a2 ≠ (0 : Int)) → RF Tryz.prog ctx 16 [(.int .i64 a0), (.int .i64 a1), (.int .i64 a2)] h (fun v0 h1 => ∃ (l2 : List UInt8) (b3 : Bool), v0 = (.tuple [(.str l2), (.bool b3)]) ∧ ((b3 = true → Q (.tuple [(.str l2), (.int .i64 (0 : Int))]) h1) ∧ (b3 = false → Q (.tuple [(.str []), (.int .i64 (2 : Int))]) h1)))))) ∧ (¬(a0 < (2 : Int)) → RF Tryz.prog ctx 16 [(.int .i64 a0), (.int .i64 a1), (.int .i64 a2)] h (fun v4 h5 => ∃ (l6 : List UInt8) (b7 : Bool), v4 = (.tuple [(.str l6), (.bool b7)]) ∧ ((b7 = true → Q (.tuple [(.str l6), (.int .i64 (0 : Int))]) h5) ∧ (b7 = false → Q (.tuple [(.str []), (.int .i64 (2 : Int))]) h5)))))))))))))))))) := by kernel_rfl

/- cheesepress/cheesepressref25.Head -/
def l7_0 : Code :=
 (.seq
  (.seq
   (.region 5 ⟨[O1 (some 45) 3 (.move (t 9)),
     O1 (some 46) 42 (.move (t 8)),
     O1 (some 47) 3 (.call ⟨(.builtin .len), #[(t 46)], #[42]⟩),
     O1 (some 48) 4 (.binOp .lss 3 (t 45) (t 47) 3)]⟩ false)
   (.cond (t 48)
    .skip
    (.exit 0)))
  (.seq
   (.block 1
    (.seq
     (.region 7 ⟨[O1 (some 51) 42 (.move (t 8)),
       O1 (some 52) 3 (.move (t 9)),
       O1 (some 53) 0 (.indexAddr 42 (t 51) (t 52)),
       O1 (some 54) 45 (.load 45 (t 53)),
       O1 (some 10) 0 (.alloc 45),
       O1 none 0 (.store 45 (t 10) (t 54))]⟩ false)
     (.seq
      (.region 8 ⟨[O1 (some 55) 3 (.move (t 1)),
        O1 (some 56) 0 (.fieldAddr 45 (t 10) 3),
        O1 (some 57) 3 (.load 3 (t 56)),
        O1 (some 58) 0 (.fieldAddr 45 (t 10) 2),
        O1 (some 59) 3 (.load 3 (t 58)),
        O1 (some 60) 3 (.binOp .sub 3 (t 57) (t 59) 3),
        O1 (some 61) 46 (.convert 3 46 (t 60)),
        O1 (some 62) 3 (.binOp .shl 3 (ci 1) (t 61) 46),
        O1 (some 63) 4 (.binOp .lss 3 (t 55) (t 62) 3),
        O1 (some 64) 4 (.move (t 63)),
        O2 (some 65) 3 (.move (t 2)) (9, true),
        O2 (some 66) 0 (.fieldAddr 45 (t 10) 4) (9, true),
        O2 (some 67) 3 (.load 3 (t 66)) (9, true),
        O2 (some 68) 0 (.fieldAddr 45 (t 10) 3) (9, true),
        O2 (some 69) 3 (.load 3 (t 68)) (9, true),
        O2 (some 70) 3 (.binOp .sub 3 (t 67) (t 69) 3) (9, true),
        O2 (some 71) 46 (.convert 3 46 (t 70)) (9, true),
        O2 (some 72) 3 (.binOp .shl 3 (ci 1) (t 71) 46) (9, true),
        O2 (some 73) 4 (.binOp .lss 3 (t 65) (t 72) 3) (9, true),
        O1 (some 74) 4 (.pick (t 64) (t 73) (.const (.bool false))),
        O1 (some 11) 4 (.assign (t 74))]⟩ false)
      (.seq
       (.seq
        (.region 9 ⟨[O1 (some 75) 3 (.move (t 0)),
          O1 (some 76) 4 (.binOp .geq 3 (t 75) (ci 2) 3)]⟩ false)
        (.cond (t 76)
         (.region 10 ⟨[O1 (some 77) 4 (.move (t 11)),
           O1 (some 78) 4 (.move (t 77)),
           O2 (some 79) 0 (.fieldAddr 45 (t 10) 5) (1, true),
           O2 (some 80) 3 (.load 3 (t 79)) (1, true),
           O2 (some 81) 4 (.binOp .eql 3 (t 80) (ci 1) 3) (1, true),
           O2 (some 82) 3 (.move (t 1)) (1, true),
           O2 (some 83) 4 (.binOp .lss 3 (t 82) (ci 256) 3) (1, true),
           O2 (some 84) 4 (.binOp .eql 4 (t 81) (t 83) 4) (1, true),
           O1 (some 85) 4 (.pick (t 78) (t 84) (.const (.bool false))),
           O1 (some 11) 4 (.assign (t 85))]⟩ false)
         .skip))
       (.seq
        (.region 11 ⟨[O1 (some 86) 4 (.move (t 11))]⟩ false)
        (.cond (t 86)
         (.seq
          (.region 12 ⟨[O1 (some 87) 3 (.move (t 0)),
            O1 (some 88) 47 (.convert 3 47 (t 87)),
            O1 (some 89) 0 (.fieldAddr 45 (t 10) 0),
            O1 (some 90) 3 (.load 3 (t 89)),
            O1 (some 91) 47 (.convert 3 47 (t 90)),
            O1 (some 92) 47 (.binOp .shl 47 (t 91) (.const (.int .u64 (.ofNat 2))) 46),
            O1 (some 93) 47 (.binOp .add 47 (t 88) (t 92) 47),
            O1 (some 94) 3 (.move (t 1)),
            O1 (some 95) 47 (.convert 3 47 (t 94)),
            O1 (some 96) 0 (.fieldAddr 45 (t 10) 2),
            O1 (some 97) 3 (.load 3 (t 96)),
            O1 (some 98) 46 (.convert 3 46 (t 97)),
            O1 (some 99) 47 (.binOp .shl 47 (t 95) (t 98) 46),
            O1 (some 100) 47 (.binOp .add 47 (t 93) (t 99) 47),
            O1 (some 101) 3 (.move (t 2)),
            O1 (some 102) 47 (.convert 3 47 (t 101)),
            O1 (some 103) 0 (.fieldAddr 45 (t 10) 3),
            O1 (some 104) 3 (.load 3 (t 103)),
            O1 (some 105) 46 (.convert 3 46 (t 104)),
            O1 (some 106) 47 (.binOp .shl 47 (t 102) (t 105) 46),
            O1 (some 107) 47 (.binOp .add 47 (t 100) (t 106) 47),
            O1 (some 12) 47 (.assign (t 107))]⟩ false)
          (.seq
           (.region 13 ⟨[O1 (some 108) 47 (.move (t 12)),
             O1 (some 109) 0 (.fieldAddr 45 (t 10) 1),
             O1 (some 110) 3 (.load 3 (t 109)),
             O1 (some 111) 24 (.call ⟨(.value (.func 18)), #[(t 108), (t 110)], #[47, 3]⟩),
             O1 (some 112) 9 (.extract (t 111) 0),
             O1 (some 113) 23 (.extract (t 111) 1),
             O1 (some 6) 9 (.assign (t 112)),
             O1 (some 7) 23 (.assign (t 113))]⟩ false)
           .ret))
         .skip))))))
   (.region 6 ⟨[O1 (some 49) 3 (.move (t 9)),
     O1 (some 50) 3 (.binOp .add 3 (t 49) (ci 1) 3),
     O1 (some 9) 3 (.assign (t 50))]⟩ false)))
def r7_1 : Code :=
 (.seq
  (.region 14 ⟨[O1 (some 6) 9 (.assign (cs [])),
    O1 (some 7) 23 (.assign (ci 2))]⟩ false)
  .ret)
def b7 : Code :=
 (.seq
  (.region 0 ⟨[O1 (some 6) 9 (.assign (cs [])),
    O1 (some 7) 23 (.assign (ci 0))]⟩ false)
  (.seq
   (.seq
    (.region 1 ⟨[O1 (some 13) 3 (.move (t 0)),
      O1 (some 14) 4 (.binOp .lss 3 (t 13) (ci 0) 3),
      O1 (some 15) 4 (.move (t 14)),
      O2 (some 16) 3 (.move (t 0)) (2, false),
      O2 (some 17) 4 (.binOp .gtr 3 (t 16) (ci 3) 3) (2, false),
      O1 (some 18) 4 (.pick (t 15) (.const (.bool true)) (t 17)),
      O1 (some 19) 4 (.move (t 18)),
      O2 (some 20) 3 (.move (t 1)) (6, false),
      O2 (some 21) 4 (.binOp .lss 3 (t 20) (ci 0) 3) (6, false),
      O1 (some 22) 4 (.pick (t 19) (.const (.bool true)) (t 21)),
      O1 (some 23) 4 (.move (t 22)),
      O2 (some 24) 3 (.move (t 1)) (10, false),
      O2 (some 25) 4 (.binOp .gtr 3 (t 24) (ci 131072) 3) (10, false),
      O1 (some 26) 4 (.pick (t 23) (.const (.bool true)) (t 25)),
      O1 (some 27) 4 (.move (t 26)),
      O2 (some 28) 3 (.move (t 2)) (14, false),
      O2 (some 29) 4 (.binOp .lss 3 (t 28) (ci 0) 3) (14, false),
      O1 (some 30) 4 (.pick (t 27) (.const (.bool true)) (t 29)),
      O1 (some 31) 4 (.move (t 30)),
      O2 (some 32) 3 (.move (t 2)) (18, false),
      O2 (some 33) 4 (.binOp .gtr 3 (t 32) (ci 131072) 3) (18, false),
      O1 (some 34) 4 (.pick (t 31) (.const (.bool true)) (t 33)),
      O1 (some 35) 4 (.move (t 34)),
      O2 (some 36) 3 (.move (t 0)) (22, false),
      O2 (some 37) 4 (.binOp .lss 3 (t 36) (ci 2) 3) (22, false),
      O2 (some 38) 4 (.move (t 37)) (22, false),
      O2 (some 39) 3 (.move (t 2)) (25, true),
      O2 (some 40) 4 (.binOp .neq 3 (t 39) (ci 0) 3) (25, true),
      O2 (some 41) 4 (.pick (t 38) (t 40) (.const (.bool false))) (22, false),
      O1 (some 42) 4 (.pick (t 35) (.const (.bool true)) (t 41))]⟩ false)
    (.cond (t 42)
     (.seq
      (.region 2 ⟨[O1 (some 6) 9 (.assign (cs [])),
        O1 (some 7) 23 (.assign (ci 2))]⟩ false)
      .ret)
     .skip))
   (.seq
    (.region 3 ⟨[O1 (some 43) 3 (.move (t 0)),
      O1 (some 44) 42 (.call ⟨(.value (.func 17)), #[(t 43)], #[3]⟩),
      O1 (some 8) 42 (.assign (t 44))]⟩ false)
    (.seq
     (.seq
      (.region 4 ⟨[O1 (some 9) 3 (.assign (ci 0))]⟩ false)
      (.block 0
       (.loop l7_0)))
     r7_1))))
theorem fn7 : (ctx.fn.get 7).map slimF = some ⟨114, [.tmp 6, .tmp 7], b7⟩ := by kernel_rfl
theorem vl7_0 (tm : Tm) (y9 : Int) (y8 : V) (y1 : Int) (y2 : Int) (y0 : Int) (d : List AD) (h : H) (Q : AX → St → Prop) : wpC Tryz.prog ctx false l7_0 ⟨114, (Tb.set (Tb.set (Tb.set (Tb.set (Tb.set tm 9 (.int .i64 y9)) 8 y8) 1 (.int .i64 y1)) 2 (.int .i64 y2)) 0 (.int .i64 y0)), d, h⟩ (sealQ [6, 7, 9, 8, 1, 2, 0] Q) = (∃ (x0 : Int), alen ctx 42 h y8 = some (.int .i64 x0) ∧ ((y9 < x0 → ∃ p1 o2, aidx ctx 42 y8 (.int .i64 y9) = some (.ptr p1 o2) ∧ ∃ (x3 : Int) (x4 : Int) (x5 : Int) (x6 : Int) (x7 : Int) (x8 : Int), ald ctx 45 h (.ptr p1 o2) = some (.agg [(.int .i64 x3), (.int .i64 x4), (.int .i64 x5), (.int .i64 x6), (.int .i64 x7), (.int .i64 x8)]) ∧ (h.next < T.top ∧ ∀ p9 h10, p9 = h.next → h10 = h.new (.cells (.ls [(.int .i64 (0 : Int)), (.int .i64 (0 : Int)), (.int .i64 (0 : Int)), (.int .i64 (0 : Int)), (.int .i64 (0 : Int)), (.int .i64 (0 : Int))]) ⟨0, 46, 0⟩ true false) → ∃ h11, ast ctx 45 h10 (.ptr p9 0) (.agg [(.int .i64 x3), (.int .i64 x4), (.int .i64 x5), (.int .i64 x6), (.int .i64 x7), (.int .i64 x8)]) = some h11 ∧ ∃ (x12 : Int), ald ctx 3 h11 (.ptr p9 (0 + 3)) = some (.int .i64 x12) ∧ ∃ (x13 : Int), ald ctx 3 h11 (.ptr p9 (0 + 2)) = some (.int .i64 x13) ∧ ∃ (x14 : Int), intB .shl .i64 (1 : Int) (wrapF .u64 ((w64 (x12 - x13)))) = some (.int .i64 x14) ∧ ((y1 < x14 → ∃ (x15 : Int), ald ctx 3 h11 (.ptr p9 (0 + 4)) = some (.int .i64 x15) ∧ ∃ (x16 : Int), ald ctx 3 h11 (.ptr p9 (0 + 3)) = some (.int .i64 x16) ∧ ∃ (x17 : Int), intB .shl .i64 (1 : Int) (wrapF .u64 ((w64 (x15 - x16)))) = some (.int .i64 x17) ∧ ((y2 < x17 → (((2 : Int) ≤ y0 → ∃ (x18 : Int), ald ctx 3 h11 (.ptr p9 (0 + 5)) = some (.int .i64 x18) ∧ ((x18 = (1 : Int) → ((y1 < (256 : Int) → ∃ (b19 : Bool), abin ctx .eql 4 (t 81) (t 83) (.bool true) (.bool true) = some (.bool b19) ∧ ((b19 = true → ∃ (x20 : Int), ald ctx 3 h11 (.ptr p9 (0 + 0)) = some (.int .i64 x20) ∧ ∃ (x21 : Int), intB .shl .u64 (wrapF .u64 (x20)) (2 : Int) = some (.int .u64 x21) ∧ ∃ (x22 : Int), ald ctx 3 h11 (.ptr p9 (0 + 2)) = some (.int .i64 x22) ∧ ∃ (x23 : Int), intB .shl .u64 (wrapF .u64 (y1)) (wrapF .u64 (x22)) = some (.int .u64 x23) ∧ ∃ (x24 : Int), ald ctx 3 h11 (.ptr p9 (0 + 3)) = some (.int .i64 x24) ∧ ∃ (x25 : Int), intB .shl .u64 (wrapF .u64 (y2)) (wrapF .u64 (x24)) = some (.int .u64 x25) ∧ ∃ (x26 : Int), ald ctx 3 h11 (.ptr p9 (0 + 1)) = some (.int .i64 x26) ∧ RF Tryz.prog ctx 18 [(.int .u64 (wrapF .u64 ((wrapF .u64 ((wrapF .u64 ((wrapF .u64 (y0)) + x21)) + x23)) + x25))), (.int .i64 x26)] h11 (fun v27 h28 => ∃ (l29 : List UInt8) (x30 : Int), v27 = (.tuple [(.str l29), (.int .i64 x30)]) ∧ (∀ tm', getV tm' 6 = (.str l29) → getV tm' 7 = (.int .i64 x30) → getV tm' 9 = (.int .i64 y9) → getV tm' 8 = y8 → getV tm' 1 = (.int .i64 y1) → getV tm' 2 = (.int .i64 y2) → getV tm' 0 = (.int .i64 y0) → Q .ret ⟨114, tm', d, h28⟩))) ∧ (b19 = false → (∀ tm', getV tm' 6 = getV tm 6 → getV tm' 7 = getV tm 7 → getV tm' 9 = (.int .i64 (w64 (y9 + (1 : Int)))) → getV tm' 8 = y8 → getV tm' 1 = (.int .i64 y1) → getV tm' 2 = (.int .i64 y2) → getV tm' 0 = (.int .i64 y0) → Q .normal ⟨114, tm', d, h11⟩)))) ∧ (¬(y1 < (256 : Int)) → ∃ (b31 : Bool), abin ctx .eql 4 (t 81) (t 83) (.bool true) (.bool false) = some (.bool b31) ∧ ((b31 = true → ∃ (x32 : Int), ald ctx 3 h11 (.ptr p9 (0 + 0)) = some (.int .i64 x32) ∧ ∃ (x33 : Int), intB .shl .u64 (wrapF .u64 (x32)) (2 : Int) = some (.int .u64 x33) ∧ ∃ (x34 : Int), ald ctx 3 h11 (.ptr p9 (0 + 2)) = some (.int .i64 x34) ∧ ∃ (x35 : Int), intB .shl .u64 (wrapF .u64 (y1)) (wrapF .u64 (x34)) = some (.int .u64 x35) ∧ ∃ (x36 : Int), ald ctx 3 h11 (.ptr p9 (0 + 3)) = some (.int .i64 x36) ∧ ∃ (x37 : Int), intB .shl .u64 (wrapF .u64 (y2)) (wrapF .u64 (x36)) = some (.int .u64 x37) ∧ ∃ (x38 : Int), ald ctx 3 h11 (.ptr p9 (0 + 1)) = some (.int .i64 x38) ∧ RF Tryz.prog ctx 18 [(.int .u64 (wrapF .u64 ((wrapF .u64 ((wrapF .u64 ((wrapF .u64 (y0)) + x33)) + x35)) + x37))), (.int .i64 x38)] h11 (fun v39 h40 => ∃ (l41 : List UInt8) (x42 : Int), v39 = (.tuple [(.str l41), (.int .i64 x42)]) ∧ (∀ tm', getV tm' 6 = (.str l41) → getV tm' 7 = (.int .i64 x42) → getV tm' 9 = (.int .i64 y9) → getV tm' 8 = y8 → getV tm' 1 = (.int .i64 y1) → getV tm' 2 = (.int .i64 y2) → getV tm' 0 = (.int .i64 y0) → Q .ret ⟨114, tm', d, h40⟩))) ∧ (b31 = false → (∀ tm', getV tm' 6 = getV tm 6 → getV tm' 7 = getV tm 7 → getV tm' 9 = (.int .i64 (w64 (y9 + (1 : Int)))) → getV tm' 8 = y8 → getV tm' 1 = (.int .i64 y1) → getV tm' 2 = (.int .i64 y2) → getV tm' 0 = (.int .i64 y0) → Q .normal ⟨114, tm', d, h11⟩)))))) ∧ (¬(x18 = (1 : Int)) → ((y1 < (256 : Int) → ∃ (b43 : Bool), abin ctx .eql 4 (t 81) (t 83) (.bool false) (.bool true) = some (.bool b43) ∧ ((b43 = true → ∃ (x44 : Int), ald ctx 3 h11 (.ptr p9 (0 + 0)) = some (.int .i64 x44) ∧ ∃ (x45 : Int), intB .shl .u64 (wrapF .u64 (x44)) (2 : Int) = some (.int .u64 x45) ∧ ∃ (x46 : Int), ald ctx 3 h11 (.ptr p9 (0 + 2)) = some (.int .i64 x46) ∧ ∃ (x47 : Int), intB .shl .u64 (wrapF .u64 (y1)) (wrapF .u64 (x46)) = some (.int .u64 x47) ∧ ∃ (x48 : Int), ald ctx 3 h11 (.ptr p9 (0 + 3)) = some (.int .i64 x48) ∧ ∃ (x49 : Int), intB .shl .u64 (wrapF .u64 (y2)) (wrapF .u64 (x48)) = some (.int .u64 x49) ∧ ∃ (x50 : Int), ald ctx 3 h11 (.ptr p9 (0 + 1)) = some (.int .i64 x50) ∧ RF Tryz.prog ctx 18 [(.int .u64 (wrapF .u64 ((wrapF .u64 ((wrapF .u64 ((wrapF .u64 (y0)) + x45)) + x47)) + x49))), (.int .i64 x50)] h11 (fun v51 h52 => ∃ (l53 : List UInt8) (x54 : Int), v51 = (.tuple [(.str l53), (.int .i64 x54)]) ∧ (∀ tm', getV tm' 6 = (.str l53) → getV tm' 7 = (.int .i64 x54) → getV tm' 9 = (.int .i64 y9) → getV tm' 8 = y8 → getV tm' 1 = (.int .i64 y1) → getV tm' 2 = (.int .i64 y2) → getV tm' 0 = (.int .i64 y0) → Q .ret ⟨114, tm', d, h52⟩))) ∧ (b43 = false → (∀ tm', getV tm' 6 = getV tm 6 → getV tm' 7 = getV tm 7 → getV tm' 9 = (.int .i64 (w64 (y9 + (1 : Int)))) → getV tm' 8 = y8 → getV tm' 1 = (.int .i64 y1) → getV tm' 2 = (.int .i64 y2) → getV tm' 0 = (.int .i64 y0) → Q .normal ⟨114, tm', d, h11⟩)))) ∧ (¬(y1 < (256 : Int)) → ∃ (b55 : Bool), abin ctx .eql 4 (t 81) (t 83) (.bool false) (.bool false) = some (.bool b55) ∧ ((b55 = true → ∃ (x56 : Int), ald ctx 3 h11 (.ptr p9 (0 + 0)) = some (.int .i64 x56) ∧ ∃ (x57 : Int), intB .shl .u64 (wrapF .u64 (x56)) (2 : Int) = some (.int .u64 x57) ∧ ∃ (x58 : Int), ald ctx 3 h11 (.ptr p9 (0 + 2)) = some (.int .i64 x58) ∧ ∃ (x59 : Int), intB .shl .u64 (wrapF .u64 (y1)) (wrapF .u64 (x58)) = some (.int .u64 x59) ∧ ∃ (x60 : Int), ald ctx 3 h11 (.ptr p9 (0 + 3)) = some (.int .i64 x60) ∧ ∃ (x61 : Int), intB .shl .u64 (wrapF .u64 (y2)) (wrapF .u64 (x60)) = some (.int .u64 x61) ∧ ∃ (x62 : Int), ald ctx 3 h11 (.ptr p9 (0 + 1)) = some (.int .i64 x62) ∧ RF Tryz.prog ctx 18 [(.int .u64 (wrapF .u64 ((wrapF .u64 ((wrapF .u64 ((wrapF .u64 (y0)) + x57)) + x59)) + x61))), (.int .i64 x62)] h11 (fun v63 h64 => ∃ (l65 : List UInt8) (x66 : Int), v63 = (.tuple [(.str l65), (.int .i64 x66)]) ∧ (∀ tm', getV tm' 6 = (.str l65) → getV tm' 7 = (.int .i64 x66) → getV tm' 9 = (.int .i64 y9) → getV tm' 8 = y8 → getV tm' 1 = (.int .i64 y1) → getV tm' 2 = (.int .i64 y2) → getV tm' 0 = (.int .i64 y0) → Q .ret ⟨114, tm', d, h64⟩))) ∧ (b55 = false → (∀ tm', getV tm' 6 = getV tm 6 → getV tm' 7 = getV tm 7 → getV tm' 9 = (.int .i64 (w64 (y9 + (1 : Int)))) → getV tm' 8 = y8 → getV tm' 1 = (.int .i64 y1) → getV tm' 2 = (.int .i64 y2) → getV tm' 0 = (.int .i64 y0) → Q .normal ⟨114, tm', d, h11⟩)))))))) ∧ (¬((2 : Int) ≤ y0) → ∃ (x67 : Int), ald ctx 3 h11 (.ptr p9 (0 + 0)) = some (.int .i64 x67) ∧ ∃ (x68 : Int), intB .shl .u64 (wrapF .u64 (x67)) (2 : Int) = some (.int .u64 x68) ∧ ∃ (x69 : Int), ald ctx 3 h11 (.ptr p9 (0 + 2)) = some (.int .i64 x69) ∧ ∃ (x70 : Int), intB .shl .u64 (wrapF .u64 (y1)) (wrapF .u64 (x69)) = some (.int .u64 x70) ∧ ∃ (x71 : Int), ald ctx 3 h11 (.ptr p9 (0 + 3)) = some (.int .i64 x71) ∧ ∃ (x72 : Int), intB .shl .u64 (wrapF .u64 (y2)) (wrapF .u64 (x71)) = some (.int .u64 x72) ∧ ∃ (x73 : Int), ald ctx 3 h11 (.ptr p9 (0 + 1)) = some (.int .i64 x73) ∧ RF Tryz.prog ctx 18 [(.int .u64 (wrapF .u64 ((wrapF .u64 ((wrapF .u64 ((wrapF .u64 (y0)) + x68)) + x70)) + x72))), (.int .i64 x73)] h11 (fun v74 h75 => ∃ (l76 : List UInt8) (x77 : Int), v74 = (.tuple [(.str l76), (.int .i64 x77)]) ∧ (∀ tm', getV tm' 6 = (.str l76) → getV tm' 7 = (.int .i64 x77) → getV tm' 9 = (.int .i64 y9) → getV tm' 8 = y8 → getV tm' 1 = (.int .i64 y1) → getV tm' 2 = (.int .i64 y2) → getV tm' 0 = (.int .i64 y0) → Q .ret ⟨114, tm', d, h75⟩))))) ∧ (¬(y2 < x17) → (((2 : Int) ≤ y0 → (∀ tm', getV tm' 6 = getV tm 6 → getV tm' 7 = getV tm 7 → getV tm' 9 = (.int .i64 (w64 (y9 + (1 : Int)))) → getV tm' 8 = y8 → getV tm' 1 = (.int .i64 y1) → getV tm' 2 = (.int .i64 y2) → getV tm' 0 = (.int .i64 y0) → Q .normal ⟨114, tm', d, h11⟩)) ∧ (¬((2 : Int) ≤ y0) → (∀ tm', getV tm' 6 = getV tm 6 → getV tm' 7 = getV tm 7 → getV tm' 9 = (.int .i64 (w64 (y9 + (1 : Int)))) → getV tm' 8 = y8 → getV tm' 1 = (.int .i64 y1) → getV tm' 2 = (.int .i64 y2) → getV tm' 0 = (.int .i64 y0) → Q .normal ⟨114, tm', d, h11⟩)))))) ∧ (¬(y1 < x14) → (((2 : Int) ≤ y0 → (∀ tm', getV tm' 6 = getV tm 6 → getV tm' 7 = getV tm 7 → getV tm' 9 = (.int .i64 (w64 (y9 + (1 : Int)))) → getV tm' 8 = y8 → getV tm' 1 = (.int .i64 y1) → getV tm' 2 = (.int .i64 y2) → getV tm' 0 = (.int .i64 y0) → Q .normal ⟨114, tm', d, h11⟩)) ∧ (¬((2 : Int) ≤ y0) → (∀ tm', getV tm' 6 = getV tm 6 → getV tm' 7 = getV tm 7 → getV tm' 9 = (.int .i64 (w64 (y9 + (1 : Int)))) → getV tm' 8 = y8 → getV tm' 1 = (.int .i64 y1) → getV tm' 2 = (.int .i64 y2) → getV tm' 0 = (.int .i64 y0) → Q .normal ⟨114, tm', d, h11⟩))))))) ∧ (¬(y9 < x0) → (∀ tm', getV tm' 6 = getV tm 6 → getV tm' 7 = getV tm 7 → getV tm' 9 = (.int .i64 y9) → getV tm' 8 = y8 → getV tm' 1 = (.int .i64 y1) → getV tm' 2 = (.int .i64 y2) → getV tm' 0 = (.int .i64 y0) → Q (.exit 0) ⟨114, tm', d, h⟩)))) := by kernel_rfl
theorem vr7_1 (tm : Tm)  (d : List AD) (h : H) (Q : AX → St → Prop) : wpC Tryz.prog ctx false r7_1 ⟨114, tm, d, h⟩ (sealQ [6, 7, 9, 8, 1, 2, 0] Q) = ((∀ tm', getV tm' 6 = (.str []) → getV tm' 7 = (.int .i64 (2 : Int)) → getV tm' 9 = getV tm 9 → getV tm' 8 = getV tm 8 → getV tm' 1 = getV tm 1 → getV tm' 2 = getV tm 2 → getV tm' 0 = getV tm 0 → Q .ret ⟨114, tm', d, h⟩)) := by kernel_rfl
theorem vb7 (a0 : Int) (a1 : Int) (a2 : Int) (h : H) (Q : V → H → Prop) : wpC Tryz.prog ctx false b7 ⟨114, setArgs [(.int .i64 a0), (.int .i64 a1), (.int .i64 a2)] 0 (Tb.leaf undefV), [], h⟩ (endW ctx ⟨114, [.tmp 6, .tmp 7], b7⟩ Q) = (((a0 < (0 : Int) → Q (.tuple [(.str []), (.int .i64 (2 : Int))]) h) ∧ (¬(a0 < (0 : Int)) → (((3 : Int) < a0 → Q (.tuple [(.str []), (.int .i64 (2 : Int))]) h) ∧ (¬((3 : Int) < a0) → ((a1 < (0 : Int) → Q (.tuple [(.str []), (.int .i64 (2 : Int))]) h) ∧ (¬(a1 < (0 : Int)) → (((131072 : Int) < a1 → Q (.tuple [(.str []), (.int .i64 (2 : Int))]) h) ∧ (¬((131072 : Int) < a1) → ((a2 < (0 : Int) → Q (.tuple [(.str []), (.int .i64 (2 : Int))]) h) ∧ (¬(a2 < (0 : Int)) → (((131072 : Int) < a2 → Q (.tuple [(.str []), (.int .i64 (2 : Int))]) h) ∧ (¬((131072 : Int) < a2) → ((a0 < (2 : Int) → ((a2 ≠ (0 : Int) → Q (.tuple [(.str []), (.int .i64 (2 : Int))]) h) ∧ (¬(a2 ≠ (0 : Int)) → RF Tryz.prog ctx 17 [(.int .i64 a0)] h (fun v0 h1 => ∃ (v2 : V), v0 = v2 ∧ wpC Tryz.prog ctx false (.loop l7_0) ⟨114, (Tb.set (Tb.set (Tb.set (Tb.set (Tb.set (Tb.set (Tb.set (Tb.set (Tb.set (Tb.set (Tb.set (Tb.set (Tb.set (Tb.set (Tb.set (Tb.set (Tb.set (Tb.set (Tb.set (Tb.set (Tb.set (Tb.set (Tb.set (Tb.set (Tb.set (Tb.set (Tb.set (Tb.set (Tb.set (Tb.set (Tb.set (Tb.set (Tb.set (Tb.set (Tb.set (Tb.set (Tb.set (Tb.set (Tb.set (Tb.leaf undefV) 0 (.int .i64 a0)) 1 (.int .i64 a1)) 2 (.int .i64 a2)) 6 (.str [])) 7 (.int .i64 (0 : Int))) 13 (.int .i64 a0)) 14 (.bool false)) 15 (.bool false)) 16 (.int .i64 a0)) 17 (.bool false)) 18 (.bool false)) 19 (.bool false)) 20 (.int .i64 a1)) 21 (.bool false)) 22 (.bool false)) 23 (.bool false)) 24 (.int .i64 a1)) 25 (.bool false)) 26 (.bool false)) 27 (.bool false)) 28 (.int .i64 a2)) 29 (.bool false)) 30 (.bool false)) 31 (.bool false)) 32 (.int .i64 a2)) 33 (.bool false)) 34 (.bool false)) 35 (.bool false)) 36 (.int .i64 a0)) 37 (.bool true)) 38 (.bool true)) 39 (.int .i64 a2)) 40 (.bool false)) 41 (.bool false)) 42 (.bool false)) 43 (.int .i64 a0)) 44 v2) 8 v2) 9 (.int .i64 (0 : Int))), [], h1⟩ (fun e s1 => (thenC (fun s1 => wpC Tryz.prog ctx false r7_1 s1 (endW ctx ⟨114, [.tmp 6, .tmp 7], b7⟩ Q)) (endW ctx ⟨114, [.tmp 6, .tmp 7], b7⟩ Q)) (exitB 0 e) s1))))) ∧ (¬(a0 < (2 : Int)) → RF Tryz.prog ctx 17 [(.int .i64 a0)] h (fun v3 h4 => ∃ (v5 : V), v3 = v5 ∧ wpC Tryz.prog ctx false (.loop l7_0) ⟨114, (Tb.set (Tb.set (Tb.set (Tb.set (Tb.set (Tb.set (Tb.set (Tb.set (Tb.set (Tb.set (Tb.set (Tb.set (Tb.set (Tb.set (Tb.set (Tb.set (Tb.set (Tb.set (Tb.set (Tb.set (Tb.set (Tb.set (Tb.set (Tb.set (Tb.set (Tb.set (Tb.set (Tb.set (Tb.set (Tb.set (Tb.set (Tb.set (Tb.set (Tb.set (Tb.set (Tb.set (Tb.set (Tb.set (Tb.set (Tb.leaf undefV) 0 (.int .i64 a0)) 1 (.int .i64 a1)) 2 (.int .i64 a2)) 6 (.str [])) 7 (.int .i64 (0 : Int))) 13 (.int .i64 a0)) 14 (.bool false)) 15 (.bool false)) 16 (.int .i64 a0)) 17 (.bool false)) 18 (.bool false)) 19 (.bool false)) 20 (.int .i64 a1)) 21 (.bool false)) 22 (.bool false)) 23 (.bool false)) 24 (.int .i64 a1)) 25 (.bool false)) 26 (.bool false)) 27 (.bool false)) 28 (.int .i64 a2)) 29 (.bool false)) 30 (.bool false)) 31 (.bool false)) 32 (.int .i64 a2)) 33 (.bool false)) 34 (.bool false)) 35 (.bool false)) 36 (.int .i64 a0)) 37 (.bool false)) 38 (.bool false)) 39 undefV) 40 undefV) 41 (.bool false)) 42 (.bool false)) 43 (.int .i64 a0)) 44 v5) 8 v5) 9 (.int .i64 (0 : Int))), [], h4⟩ (fun e s1 => (thenC (fun s1 => wpC Tryz.prog ctx false r7_1 s1 (endW ctx ⟨114, [.tmp 6, .tmp 7], b7⟩ Q)) (endW ctx ⟨114, [.tmp 6, .tmp 7], b7⟩ Q)) (exitB 0 e) s1))))))))))))))))) := by kernel_rfl

/- cheesepress/cheesepressref25.ReadHead -/
def l9_0 : Code :=
 (.seq
  (.seq
   (.region 11 ⟨[O1 (some 57) 3 (.move (t 14)),
     O1 (some 58) 42 (.move (t 13)),
     O1 (some 59) 3 (.call ⟨(.builtin .len), #[(t 58)], #[42]⟩),
     O1 (some 60) 4 (.binOp .lss 3 (t 57) (t 59) 3)]⟩ false)
   (.cond (t 60)
    .skip
    (.exit 0)))
  (.seq
   (.block 1
    (.seq
     (.region 13 ⟨[O1 (some 63) 42 (.move (t 13)),
       O1 (some 64) 3 (.move (t 14)),
       O1 (some 65) 0 (.indexAddr 42 (t 63) (t 64)),
       O1 (some 66) 45 (.load 45 (t 65)),
       O1 (some 15) 0 (.alloc 45),
       O1 none 0 (.store 45 (t 15) (t 66))]⟩ false)
     (.seq
      (.seq
       (.region 14 ⟨[O1 (some 67) 0 (.fieldAddr 45 (t 15) 0),
         O1 (some 68) 3 (.load 3 (t 67)),
         O1 (some 69) 3 (.move (t 12)),
         O1 (some 70) 4 (.binOp .neq 3 (t 68) (t 69) 3)]⟩ false)
       (.cond (t 70)
        (.exit 1)
        .skip))
      (.seq
       (.region 15 ⟨[O1 (some 72) 9 (.move (t 0)),
         O1 (some 73) 3 (.move (t 1)),
         O1 (some 74) 0 (.fieldAddr 45 (t 15) 1),
         O1 (some 75) 3 (.load 3 (t 74)),
         O1 (some 76) 60 (.call ⟨(.value (.func 23)), #[(t 72), (t 73), (t 75)], #[9, 3, 3]⟩),
         O1 (some 71) 60 (.move (t 76)),
         O1 (some 77) 47 (.extract (t 71) 0),
         O1 (some 78) 3 (.extract (t 71) 1),
         O1 (some 79) 27 (.extract (t 71) 2),
         O1 (some 18) 0 (.alloc 27),
         O1 (some 16) 47 (.assign (t 77)),
         O1 (some 17) 3 (.assign (t 78)),
         O1 none 0 (.store 27 (t 18) (t 79))]⟩ false)
       (.seq
        (.seq
         (.region 16 ⟨[O1 (some 80) 0 (.fieldAddr 27 (t 18) 0),
           O1 (some 81) 23 (.load 23 (t 80)),
           O1 (some 82) 4 (.binOp .neq 23 (t 81) (ci 0) 23)]⟩ false)
         (.cond (t 82)
          (.seq
           (.region 17 #[⟨(some 83), .load 27 (t 10), 27, "ref.go:67", #[⟨5, .gcOnly .lateStores⟩], none⟩,
             ⟨(some 4), .assign (ci 0), 3, "ref.go:67", #[⟨0, .textOnly .lateStores⟩], none⟩,
             ⟨(some 5), .assign (ci 0), 3, "ref.go:67", #[⟨1, .chain⟩, ⟨0, .textOnly .lateStores⟩, ⟨1, .phase⟩], none⟩,
             ⟨(some 6), .assign (ci 0), 3, "ref.go:67", #[⟨2, .chain⟩, ⟨0, .textOnly .lateStores⟩, ⟨1, .phase⟩, ⟨2, .phase⟩], none⟩,
             ⟨(some 7), .assign (ci 0), 3, "ref.go:67", #[⟨3, .chain⟩, ⟨0, .textOnly .lateStores⟩, ⟨1, .phase⟩, ⟨2, .phase⟩, ⟨3, .phase⟩], none⟩,
             ⟨(some 8), .assign (ci 0), 3, "ref.go:67", #[⟨4, .chain⟩, ⟨0, .textOnly .lateStores⟩, ⟨1, .phase⟩, ⟨2, .phase⟩, ⟨3, .phase⟩, ⟨4, .phase⟩], none⟩,
             ⟨none, .store 27 (t 9) (t 83), 0, "ref.go:67", #[⟨0, .data⟩, ⟨5, .chain⟩, ⟨0, .phase⟩, ⟨1, .phase⟩, ⟨2, .phase⟩, ⟨3, .phase⟩, ⟨4, .phase⟩, ⟨5, .phase⟩], none⟩] true)
           .ret)
          .skip))
        (.seq
         (.region 18 ⟨[O1 (some 85) 47 (.move (t 16)),
           O1 (some 86) 0 (.fieldAddr 45 (t 15) 2),
           O1 (some 87) 3 (.load 3 (t 86)),
           O1 (some 88) 46 (.convert 3 46 (t 87)),
           O1 (some 89) 47 (.binOp .shr 47 (t 85) (t 88) 46),
           O1 (some 90) 0 (.fieldAddr 45 (t 15) 3),
           O1 (some 91) 3 (.load 3 (t 90)),
           O1 (some 92) 0 (.fieldAddr 45 (t 15) 2),
           O1 (some 93) 3 (.load 3 (t 92)),
           O1 (some 94) 3 (.binOp .sub 3 (t 91) (t 93) 3),
           O1 (some 95) 62 (.call ⟨(.value (.func 24)), #[(t 89), (t 94)], #[47, 3]⟩),
           O1 (some 84) 62 (.move (t 95)),
           O1 (some 96) 47 (.extract (t 84) 0),
           O1 (some 97) 23 (.extract (t 84) 1),
           O1 (some 19) 47 (.assign (t 96)),
           O1 (some 20) 23 (.assign (t 97))]⟩ false)
         (.seq
          (.region 19 ⟨[O1 (some 21) 47 (.assign (.const (.int .u64 (.ofNat 0))))]⟩ false)
          (.seq
           (.seq
            (.region 20 ⟨[O1 (some 98) 0 (.fieldAddr 45 (t 15) 4),
              O1 (some 99) 3 (.load 3 (t 98)),
              O1 (some 100) 0 (.fieldAddr 45 (t 15) 3),
              O1 (some 101) 3 (.load 3 (t 100)),
              O1 (some 102) 4 (.binOp .gtr 3 (t 99) (t 101) 3)]⟩ false)
            (.cond (t 102)
             (.region 21 ⟨[O1 (some 104) 47 (.move (t 16)),
               O1 (some 105) 0 (.fieldAddr 45 (t 15) 3),
               O1 (some 106) 3 (.load 3 (t 105)),
               O1 (some 107) 46 (.convert 3 46 (t 106)),
               O1 (some 108) 47 (.binOp .shr 47 (t 104) (t 107) 46),
               O1 (some 109) 0 (.fieldAddr 45 (t 15) 4),
               O1 (some 110) 3 (.load 3 (t 109)),
               O1 (some 111) 0 (.fieldAddr 45 (t 15) 3),
               O1 (some 112) 3 (.load 3 (t 111)),
               O1 (some 113) 3 (.binOp .sub 3 (t 110) (t 112) 3),
               O1 (some 114) 62 (.call ⟨(.value (.func 24)), #[(t 108), (t 113)], #[47, 3]⟩),
               O1 (some 103) 62 (.move (t 114)),
               O1 (some 115) 47 (.extract (t 103) 0),
               O1 (some 116) 23 (.extract (t 103) 1),
               O1 (some 21) 47 (.assign (t 115))]⟩ false)
             .skip))
           (.seq
            (.region 22 #[⟨(some 117), .move (t 11), 3, "ref.go:74", #[], none⟩,
              ⟨(some 118), .fieldAddr 45 (t 15) 5, 0, "ref.go:74", #[⟨9, .gcOnly .lateStores⟩], none⟩,
              ⟨(some 119), .load 3 (t 118), 3, "ref.go:74", #[⟨1, .data⟩, ⟨9, .gcOnly .lateStores⟩], none⟩,
              ⟨(some 120), .move (t 19), 47, "ref.go:74", #[⟨10, .gcOnly .lateStores⟩], none⟩,
              ⟨(some 121), .convert 47 3 (t 120), 3, "ref.go:74", #[⟨3, .data⟩, ⟨10, .gcOnly .lateStores⟩], none⟩,
              ⟨(some 122), .move (t 21), 47, "ref.go:74", #[⟨11, .gcOnly .lateStores⟩], none⟩,
              ⟨(some 123), .convert 47 3 (t 122), 3, "ref.go:74", #[⟨5, .data⟩, ⟨11, .gcOnly .lateStores⟩], none⟩,
              ⟨(some 124), .move (t 17), 3, "ref.go:74", #[⟨12, .gcOnly .lateStores⟩], none⟩,
              ⟨(some 125), .build 27 #[], 27, "ref.go:74", #[⟨13, .gcOnly .lateStores⟩], none⟩,
              ⟨(some 4), .assign (t 117), 3, "ref.go:74", #[⟨0, .data⟩, ⟨0, .phase⟩, ⟨1, .textOnly .lateStores⟩, ⟨2, .textOnly .lateStores⟩, ⟨3, .textOnly .lateStores⟩, ⟨4, .textOnly .lateStores⟩, ⟨5, .textOnly .lateStores⟩, ⟨6, .textOnly .lateStores⟩, ⟨7, .textOnly .lateStores⟩, ⟨8, .textOnly .lateStores⟩], none⟩,
              ⟨(some 5), .assign (t 119), 3, "ref.go:74", #[⟨2, .data⟩, ⟨9, .chain⟩, ⟨0, .phase⟩, ⟨1, .phase⟩, ⟨2, .phase⟩, ⟨3, .textOnly .lateStores⟩, ⟨4, .textOnly .lateStores⟩, ⟨5, .textOnly .lateStores⟩, ⟨6, .textOnly .lateStores⟩, ⟨7, .textOnly .lateStores⟩, ⟨8, .textOnly .lateStores⟩, ⟨9, .phase⟩], none⟩,
              ⟨(some 6), .assign (t 121), 3, "ref.go:74", #[⟨4, .data⟩, ⟨10, .chain⟩, ⟨0, .phase⟩, ⟨1, .phase⟩, ⟨2, .phase⟩, ⟨3, .phase⟩, ⟨4, .phase⟩, ⟨5, .textOnly .lateStores⟩, ⟨6, .textOnly .lateStores⟩, ⟨7, .textOnly .lateStores⟩, ⟨8, .textOnly .lateStores⟩, ⟨9, .phase⟩, ⟨10, .phase⟩], none⟩,
              ⟨(some 7), .assign (t 123), 3, "ref.go:74", #[⟨6, .data⟩, ⟨11, .chain⟩, ⟨0, .phase⟩, ⟨1, .phase⟩, ⟨2, .phase⟩, ⟨3, .phase⟩, ⟨4, .phase⟩, ⟨5, .phase⟩, ⟨6, .phase⟩, ⟨7, .textOnly .lateStores⟩, ⟨8, .textOnly .lateStores⟩, ⟨9, .phase⟩, ⟨10, .phase⟩, ⟨11, .phase⟩], none⟩,
              ⟨(some 8), .assign (t 124), 3, "ref.go:74", #[⟨7, .data⟩, ⟨12, .chain⟩, ⟨0, .phase⟩, ⟨1, .phase⟩, ⟨2, .phase⟩, ⟨3, .phase⟩, ⟨4, .phase⟩, ⟨5, .phase⟩, ⟨6, .phase⟩, ⟨7, .phase⟩, ⟨8, .textOnly .lateStores⟩, ⟨9, .phase⟩, ⟨10, .phase⟩, ⟨11, .phase⟩, ⟨12, .phase⟩], none⟩,
              ⟨none, .store 27 (t 9) (t 125), 0, "ref.go:74", #[⟨8, .data⟩, ⟨13, .chain⟩, ⟨0, .phase⟩, ⟨1, .phase⟩, ⟨2, .phase⟩, ⟨3, .phase⟩, ⟨4, .phase⟩, ⟨5, .phase⟩, ⟨6, .phase⟩, ⟨7, .phase⟩, ⟨8, .phase⟩, ⟨9, .phase⟩, ⟨10, .phase⟩, ⟨11, .phase⟩, ⟨12, .phase⟩, ⟨13, .phase⟩], none⟩] true)
            .ret)))))))))
   (.region 12 ⟨[O1 (some 61) 3 (.move (t 14)),
     O1 (some 62) 3 (.binOp .add 3 (t 61) (ci 1) 3),
     O1 (some 14) 3 (.assign (t 62))]⟩ false)))
def r9_1 : Code :=
 (.seq
  (.region 23 #[⟨(some 126), .load 27 (t 10), 27, "ref.go:76", #[⟨5, .gcOnly .lateStores⟩], none⟩,
    ⟨(some 4), .assign (ci 0), 3, "ref.go:76", #[⟨0, .textOnly .lateStores⟩], none⟩,
    ⟨(some 5), .assign (ci 0), 3, "ref.go:76", #[⟨1, .chain⟩, ⟨0, .textOnly .lateStores⟩, ⟨1, .phase⟩], none⟩,
    ⟨(some 6), .assign (ci 0), 3, "ref.go:76", #[⟨2, .chain⟩, ⟨0, .textOnly .lateStores⟩, ⟨1, .phase⟩, ⟨2, .phase⟩], none⟩,
    ⟨(some 7), .assign (ci 0), 3, "ref.go:76", #[⟨3, .chain⟩, ⟨0, .textOnly .lateStores⟩, ⟨1, .phase⟩, ⟨2, .phase⟩, ⟨3, .phase⟩], none⟩,
    ⟨(some 8), .assign (ci 0), 3, "ref.go:76", #[⟨4, .chain⟩, ⟨0, .textOnly .lateStores⟩, ⟨1, .phase⟩, ⟨2, .phase⟩, ⟨3, .phase⟩, ⟨4, .phase⟩], none⟩,
    ⟨none, .store 27 (t 9) (t 126), 0, "ref.go:76", #[⟨0, .data⟩, ⟨5, .chain⟩, ⟨0, .phase⟩, ⟨1, .phase⟩, ⟨2, .phase⟩, ⟨3, .phase⟩, ⟨4, .phase⟩, ⟨5, .phase⟩], none⟩] true)
  .ret)
def b9 : Code :=
 (.seq
  (.region 0 ⟨[O1 (some 4) 3 (.assign (ci 0)),
    O1 (some 5) 3 (.assign (ci 0)),
    O1 (some 6) 3 (.assign (ci 0)),
    O1 (some 7) 3 (.assign (ci 0)),
    O1 (some 8) 3 (.assign (ci 0)),
    O1 (some 9) 0 (.alloc 27)]⟩ false)
  (.seq
   (.seq
    (.region 1 ⟨[O1 (some 22) 3 (.move (t 1)),
      O1 (some 23) 4 (.binOp .lss 3 (t 22) (ci 0) 3),
      O1 (some 24) 4 (.move (t 23)),
      O2 (some 25) 3 (.move (t 1)) (2, false),
      O2 (some 26) 9 (.move (t 0)) (2, false),
      O2 (some 27) 3 (.call ⟨(.builtin .len), #[(t 26)], #[9]⟩) (2, false),
      O2 (some 28) 4 (.binOp .gtr 3 (t 25) (t 27) 3) (2, false),
      O1 (some 29) 4 (.pick (t 24) (.const (.bool true)) (t 28))]⟩ false)
    (.cond (t 29)
     (.seq
      (.region 2 ⟨[O1 (some 30) 27 (.build 27 #[(0, (ci 2))]),
        O1 (some 4) 3 (.assign (ci 0)),
        O1 (some 5) 3 (.assign (ci 0)),
        O1 (some 6) 3 (.assign (ci 0)),
        O1 (some 7) 3 (.assign (ci 0)),
        O1 (some 8) 3 (.assign (ci 0)),
        O1 none 0 (.store 27 (t 9) (t 30))]⟩ false)
      .ret)
     .skip))
   (.seq
    (.region 3 ⟨[O1 (some 31) 3 (.move (t 1)),
      O1 (some 32) 27 (.build 27 #[(0, (ci 20)), (1, (t 31))]),
      O1 (some 10) 0 (.alloc 27),
      O1 none 0 (.store 27 (t 10) (t 32))]⟩ false)
    (.seq
     (.seq
      (.region 4 ⟨[O1 (some 33) 3 (.move (t 1)),
        O1 (some 34) 9 (.move (t 0)),
        O1 (some 35) 3 (.call ⟨(.builtin .len), #[(t 34)], #[9]⟩),
        O1 (some 36) 4 (.binOp .eql 3 (t 33) (t 35) 3)]⟩ false)
      (.cond (t 36)
       (.seq
        (.region 5 #[⟨(some 37), .load 27 (t 10), 27, "ref.go:53", #[⟨5, .gcOnly .lateStores⟩], none⟩,
          ⟨(some 4), .assign (ci 0), 3, "ref.go:53", #[⟨0, .textOnly .lateStores⟩], none⟩,
          ⟨(some 5), .assign (ci 0), 3, "ref.go:53", #[⟨1, .chain⟩, ⟨0, .textOnly .lateStores⟩, ⟨1, .phase⟩], none⟩,
          ⟨(some 6), .assign (ci 0), 3, "ref.go:53", #[⟨2, .chain⟩, ⟨0, .textOnly .lateStores⟩, ⟨1, .phase⟩, ⟨2, .phase⟩], none⟩,
          ⟨(some 7), .assign (ci 0), 3, "ref.go:53", #[⟨3, .chain⟩, ⟨0, .textOnly .lateStores⟩, ⟨1, .phase⟩, ⟨2, .phase⟩, ⟨3, .phase⟩], none⟩,
          ⟨(some 8), .assign (ci 0), 3, "ref.go:53", #[⟨4, .chain⟩, ⟨0, .textOnly .lateStores⟩, ⟨1, .phase⟩, ⟨2, .phase⟩, ⟨3, .phase⟩, ⟨4, .phase⟩], none⟩,
          ⟨none, .store 27 (t 9) (t 37), 0, "ref.go:53", #[⟨0, .data⟩, ⟨5, .chain⟩, ⟨0, .phase⟩, ⟨1, .phase⟩, ⟨2, .phase⟩, ⟨3, .phase⟩, ⟨4, .phase⟩, ⟨5, .phase⟩], none⟩] true)
        .ret)
       .skip))
     (.seq
      (.region 6 #[⟨(some 38), .move (t 0), 9, "ref.go:55", #[], none⟩,
        ⟨(some 39), .move (t 1), 3, "ref.go:55", #[], none⟩,
        ⟨(some 40), .index 9 (t 38) (t 39), 5, "ref.go:55", #[⟨0, .data⟩, ⟨1, .data⟩], none⟩,
        ⟨(some 41), .binOp .rem 5 (t 40) (.const (.int .u8 (.ofNat 4))) 5, 5, "ref.go:55", #[⟨2, .data⟩], none⟩,
        ⟨(some 42), .convert 5 3 (t 41), 3, "ref.go:55", #[⟨3, .data⟩], none⟩,
        ⟨(some 43), .move (t 0), 9, "ref.go:55", #[⟨11, .gcOnly .lateStores⟩], none⟩,
        ⟨(some 44), .move (t 1), 3, "ref.go:55", #[⟨11, .gcOnly .lateStores⟩], none⟩,
        ⟨(some 45), .index 9 (t 43) (t 44), 5, "ref.go:55", #[⟨5, .data⟩, ⟨6, .data⟩, ⟨11, .gcOnly .lateStores⟩], none⟩,
        ⟨(some 46), .binOp .quo 5 (t 45) (.const (.int .u8 (.ofNat 4))) 5, 5, "ref.go:55", #[⟨7, .data⟩, ⟨11, .gcOnly .lateStores⟩], none⟩,
        ⟨(some 47), .binOp .rem 5 (t 46) (.const (.int .u8 (.ofNat 4))) 5, 5, "ref.go:55", #[⟨8, .data⟩, ⟨11, .gcOnly .lateStores⟩], none⟩,
        ⟨(some 48), .convert 5 3 (t 47), 3, "ref.go:55", #[⟨9, .data⟩, ⟨11, .gcOnly .lateStores⟩], none⟩,
        ⟨(some 11), .assign (t 42), 3, "ref.go:55", #[⟨4, .data⟩, ⟨0, .phase⟩, ⟨1, .phase⟩, ⟨2, .phase⟩, ⟨3, .phase⟩, ⟨4, .phase⟩, ⟨5, .textOnly .lateStores⟩, ⟨6, .textOnly .lateStores⟩, ⟨7, .textOnly .lateStores⟩, ⟨8, .textOnly .lateStores⟩, ⟨9, .textOnly .lateStores⟩, ⟨10, .textOnly .lateStores⟩], none⟩,
        ⟨(some 12), .assign (t 48), 3, "ref.go:55", #[⟨10, .data⟩, ⟨11, .chain⟩, ⟨0, .phase⟩, ⟨1, .phase⟩, ⟨2, .phase⟩, ⟨3, .phase⟩, ⟨4, .phase⟩, ⟨5, .phase⟩, ⟨6, .phase⟩, ⟨7, .phase⟩, ⟨8, .phase⟩, ⟨9, .phase⟩, ⟨10, .phase⟩, ⟨11, .phase⟩], none⟩] true)
      (.seq
       (.seq
        (.region 7 ⟨[O1 (some 49) 3 (.move (t 11)),
          O1 (some 50) 4 (.binOp .lss 3 (t 49) (ci 2) 3),
          O1 (some 51) 4 (.move (t 50)),
          O2 (some 52) 3 (.move (t 12)) (2, true),
          O2 (some 53) 4 (.binOp .eql 3 (t 52) (ci 2) 3) (2, true),
          O1 (some 54) 4 (.pick (t 51) (t 53) (.const (.bool false)))]⟩ false)
        (.cond (t 54)
         (.region 8 ⟨[O1 (some 12) 3 (.assign (ci 0))]⟩ false)
         .skip))
       (.seq
        (.region 9 ⟨[O1 (some 55) 3 (.move (t 11)),
          O1 (some 56) 42 (.call ⟨(.value (.func 17)), #[(t 55)], #[3]⟩),
          O1 (some 13) 42 (.assign (t 56))]⟩ false)
        (.seq
         (.seq
          (.region 10 ⟨[O1 (some 14) 3 (.assign (ci 0))]⟩ false)
          (.block 0
           (.loop l9_0)))
         r9_1))))))))
theorem fn9 : (ctx.fn.get 9).map slimF = some ⟨127, [.tmp 4, .tmp 5, .tmp 6, .tmp 7, .tmp 8, .cell 9 27], b9⟩ := by kernel_rfl
theorem vl9_0 (tm : Tm) (y14 : Int) (y13 : V) (y12 : Int) (y0 : List UInt8) (y1 : Int) (y10 : V) (y9 : V) (y11 : Int) (d : List AD) (h : H) (Q : AX → St → Prop) : wpC Tryz.prog ctx false l9_0 ⟨127, (Tb.set (Tb.set (Tb.set (Tb.set (Tb.set (Tb.set (Tb.set (Tb.set tm 14 (.int .i64 y14)) 13 y13) 12 (.int .i64 y12)) 0 (.str y0)) 1 (.int .i64 y1)) 10 y10) 9 y9) 11 (.int .i64 y11)), d, h⟩ (sealQ [4, 5, 6, 7, 8, 9, 14, 13, 12, 0, 1, 10, 11] Q) = (∃ (x0 : Int), alen ctx 42 h y13 = some (.int .i64 x0) ∧ ((y14 < x0 → ∃ p1 o2, aidx ctx 42 y13 (.int .i64 y14) = some (.ptr p1 o2) ∧ ∃ (x3 : Int) (x4 : Int) (x5 : Int) (x6 : Int) (x7 : Int) (x8 : Int), ald ctx 45 h (.ptr p1 o2) = some (.agg [(.int .i64 x3), (.int .i64 x4), (.int .i64 x5), (.int .i64 x6), (.int .i64 x7), (.int .i64 x8)]) ∧ (h.next < T.top ∧ ∀ p9 h10, p9 = h.next → h10 = h.new (.cells (.ls [(.int .i64 (0 : Int)), (.int .i64 (0 : Int)), (.int .i64 (0 : Int)), (.int .i64 (0 : Int)), (.int .i64 (0 : Int)), (.int .i64 (0 : Int))]) ⟨0, 46, 0⟩ true false) → ∃ h11, ast ctx 45 h10 (.ptr p9 0) (.agg [(.int .i64 x3), (.int .i64 x4), (.int .i64 x5), (.int .i64 x6), (.int .i64 x7), (.int .i64 x8)]) = some h11 ∧ ∃ (x12 : Int), ald ctx 3 h11 (.ptr p9 (0 + 0)) = some (.int .i64 x12) ∧ ((x12 ≠ y12 → (∀ tm', getV tm' 4 = getV tm 4 → getV tm' 5 = getV tm 5 → getV tm' 6 = getV tm 6 → getV tm' 7 = getV tm 7 → getV tm' 8 = getV tm 8 → getV tm' 9 = y9 → getV tm' 14 = (.int .i64 (w64 (y14 + (1 : Int)))) → getV tm' 13 = y13 → getV tm' 12 = (.int .i64 y12) → getV tm' 0 = (.str y0) → getV tm' 1 = (.int .i64 y1) → getV tm' 10 = y10 → getV tm' 11 = (.int .i64 y11) → Q .normal ⟨127, tm', d, h11⟩)) ∧ (¬(x12 ≠ y12) → ∃ (x13 : Int), ald ctx 3 h11 (.ptr p9 (0 + 1)) = some (.int .i64 x13) ∧ RF Tryz.prog ctx 23 [(.str y0), (.int .i64 y1), (.int .i64 x13)] h11 (fun v14 h15 => ∃ (x16 : Int) (x17 : Int) (x18 : Int) (x19 : Int), v14 = (.tuple [(.int .u64 x16), (.int .i64 x17), (.agg [(.int .i64 x18), (.int .i64 x19)])]) ∧ (h15.next < T.top ∧ ∀ p20 h21, p20 = h15.next → h21 = h15.new (.cells (.ls [(.int .i64 (0 : Int)), (.int .i64 (0 : Int))]) ⟨0, 28, 0⟩ true false) → ∃ h22, ast ctx 27 h21 (.ptr p20 0) (.agg [(.int .i64 x18), (.int .i64 x19)]) = some h22 ∧ ∃ (x23 : Int), ald ctx 23 h22 (.ptr p20 (0 + 0)) = some (.int .i64 x23) ∧ ((x23 ≠ (0 : Int) → ((h22.next ≤ T.top ∧ h22.low ≤ T.top) ∧ ∃ (x24 : Int) (x25 : Int), ald ctx 27 h22 y10 = some (.agg [(.int .i64 x24), (.int .i64 x25)]) ∧ ∃ h26, ast ctx 27 h22 y9 (.agg [(.int .i64 x24), (.int .i64 x25)]) = some h26 ∧ (∀ tm', getV tm' 4 = (.int .i64 (0 : Int)) → getV tm' 5 = (.int .i64 (0 : Int)) → getV tm' 6 = (.int .i64 (0 : Int)) → getV tm' 7 = (.int .i64 (0 : Int)) → getV tm' 8 = (.int .i64 (0 : Int)) → getV tm' 9 = y9 → getV tm' 14 = (.int .i64 y14) → getV tm' 13 = y13 → getV tm' 12 = (.int .i64 y12) → getV tm' 0 = (.str y0) → getV tm' 1 = (.int .i64 y1) → getV tm' 10 = y10 → getV tm' 11 = (.int .i64 y11) → Q .ret ⟨127, tm', d, h26⟩))) ∧ (¬(x23 ≠ (0 : Int)) → ∃ (x27 : Int), ald ctx 3 h22 (.ptr p9 (0 + 2)) = some (.int .i64 x27) ∧ ∃ (x28 : Int), intB .shr .u64 x16 (wrapF .u64 (x27)) = some (.int .u64 x28) ∧ ∃ (x29 : Int), ald ctx 3 h22 (.ptr p9 (0 + 3)) = some (.int .i64 x29) ∧ ∃ (x30 : Int), ald ctx 3 h22 (.ptr p9 (0 + 2)) = some (.int .i64 x30) ∧ RF Tryz.prog ctx 24 [(.int .u64 x28), (.int .i64 (w64 (x29 - x30)))] h22 (fun v31 h32 => ∃ (x33 : Int) (x34 : Int), v31 = (.tuple [(.int .u64 x33), (.int .i64 x34)]) ∧ ∃ (x35 : Int), ald ctx 3 h32 (.ptr p9 (0 + 4)) = some (.int .i64 x35) ∧ ∃ (x36 : Int), ald ctx 3 h32 (.ptr p9 (0 + 3)) = some (.int .i64 x36) ∧ ((x36 < x35 → ∃ (x37 : Int), ald ctx 3 h32 (.ptr p9 (0 + 3)) = some (.int .i64 x37) ∧ ∃ (x38 : Int), intB .shr .u64 x16 (wrapF .u64 (x37)) = some (.int .u64 x38) ∧ ∃ (x39 : Int), ald ctx 3 h32 (.ptr p9 (0 + 4)) = some (.int .i64 x39) ∧ ∃ (x40 : Int), ald ctx 3 h32 (.ptr p9 (0 + 3)) = some (.int .i64 x40) ∧ RF Tryz.prog ctx 24 [(.int .u64 x38), (.int .i64 (w64 (x39 - x40)))] h32 (fun v41 h42 => ∃ (x43 : Int) (x44 : Int), v41 = (.tuple [(.int .u64 x43), (.int .i64 x44)]) ∧ ((h42.next ≤ T.top ∧ h42.low ≤ T.top) ∧ ∃ (x45 : Int), ald ctx 3 h42 (.ptr p9 (0 + 5)) = some (.int .i64 x45) ∧ ∃ h46, ast ctx 27 h42 y9 (.agg [(.int .i64 (0 : Int)), (.int .i64 (0 : Int))]) = some h46 ∧ (∀ tm', getV tm' 4 = (.int .i64 y11) → getV tm' 5 = (.int .i64 x45) → getV tm' 6 = (.int .i64 (w64 (x33))) → getV tm' 7 = (.int .i64 (w64 (x43))) → getV tm' 8 = (.int .i64 x17) → getV tm' 9 = y9 → getV tm' 14 = (.int .i64 y14) → getV tm' 13 = y13 → getV tm' 12 = (.int .i64 y12) → getV tm' 0 = (.str y0) → getV tm' 1 = (.int .i64 y1) → getV tm' 10 = y10 → getV tm' 11 = (.int .i64 y11) → Q .ret ⟨127, tm', d, h46⟩)))) ∧ (¬(x36 < x35) → ((h32.next ≤ T.top ∧ h32.low ≤ T.top) ∧ ∃ (x47 : Int), ald ctx 3 h32 (.ptr p9 (0 + 5)) = some (.int .i64 x47) ∧ ∃ h48, ast ctx 27 h32 y9 (.agg [(.int .i64 (0 : Int)), (.int .i64 (0 : Int))]) = some h48 ∧ (∀ tm', getV tm' 4 = (.int .i64 y11) → getV tm' 5 = (.int .i64 x47) → getV tm' 6 = (.int .i64 (w64 (x33))) → getV tm' 7 = (.int .i64 (w64 ((0 : Int)))) → getV tm' 8 = (.int .i64 x17) → getV tm' 9 = y9 → getV tm' 14 = (.int .i64 y14) → getV tm' 13 = y13 → getV tm' 12 = (.int .i64 y12) → getV tm' 0 = (.str y0) → getV tm' 1 = (.int .i64 y1) → getV tm' 10 = y10 → getV tm' 11 = (.int .i64 y11) → Q .ret ⟨127, tm', d, h48⟩))))))))))))) ∧ (¬(y14 < x0) → (∀ tm', getV tm' 4 = getV tm 4 → getV tm' 5 = getV tm 5 → getV tm' 6 = getV tm 6 → getV tm' 7 = getV tm 7 → getV tm' 8 = getV tm 8 → getV tm' 9 = y9 → getV tm' 14 = (.int .i64 y14) → getV tm' 13 = y13 → getV tm' 12 = (.int .i64 y12) → getV tm' 0 = (.str y0) → getV tm' 1 = (.int .i64 y1) → getV tm' 10 = y10 → getV tm' 11 = (.int .i64 y11) → Q (.exit 0) ⟨127, tm', d, h⟩)))) := by kernel_rfl
theorem vr9_1 (tm : Tm) (y10 : V) (y9 : V) (d : List AD) (h : H) (Q : AX → St → Prop) : wpC Tryz.prog ctx false r9_1 ⟨127, (Tb.set (Tb.set tm 10 y10) 9 y9), d, h⟩ (sealQ [4, 5, 6, 7, 8, 9, 14, 13, 12, 0, 1, 10, 11] Q) = (((h.next ≤ T.top ∧ h.low ≤ T.top) ∧ ∃ (x0 : Int) (x1 : Int), ald ctx 27 h y10 = some (.agg [(.int .i64 x0), (.int .i64 x1)]) ∧ ∃ h2, ast ctx 27 h y9 (.agg [(.int .i64 x0), (.int .i64 x1)]) = some h2 ∧ (∀ tm', getV tm' 4 = (.int .i64 (0 : Int)) → getV tm' 5 = (.int .i64 (0 : Int)) → getV tm' 6 = (.int .i64 (0 : Int)) → getV tm' 7 = (.int .i64 (0 : Int)) → getV tm' 8 = (.int .i64 (0 : Int)) → getV tm' 9 = y9 → getV tm' 14 = getV tm 14 → getV tm' 13 = getV tm 13 → getV tm' 12 = getV tm 12 → getV tm' 0 = getV tm 0 → getV tm' 1 = getV tm 1 → getV tm' 10 = y10 → getV tm' 11 = getV tm 11 → Q .ret ⟨127, tm', d, h2⟩))) := by kernel_rfl
theorem vb9 (a0 : List UInt8) (a1 : Int) (h : H) (Q : V → H → Prop) : wpC Tryz.prog ctx false b9 ⟨127, setArgs [(.str a0), (.int .i64 a1)] 0 (Tb.leaf undefV), [], h⟩ (endW ctx ⟨127, [.tmp 4, .tmp 5, .tmp 6, .tmp 7, .tmp 8, .cell 9 27], b9⟩ Q) = ((h.next < T.top ∧ ∀ p0 h1, p0 = h.next → h1 = h.new (.cells (.ls [(.int .i64 (0 : Int)), (.int .i64 (0 : Int))]) ⟨0, 28, 0⟩ true false) → ((a1 < (0 : Int) → ∃ h2, ast ctx 27 h1 (.ptr p0 0) (.agg [(.int .i64 (2 : Int)), (.int .i64 (0 : Int))]) = some h2 ∧ (endW ctx ⟨127, [.tmp 4, .tmp 5, .tmp 6, .tmp 7, .tmp 8, .cell 9 27], b9⟩ Q) .ret ⟨127, (Tb.set (Tb.set (Tb.set (Tb.set (Tb.set (Tb.set (Tb.set (Tb.set (Tb.set (Tb.set (Tb.set (Tb.set (Tb.set (Tb.set (Tb.set (Tb.set (Tb.set (Tb.set (Tb.set (Tb.set (Tb.set (Tb.set (Tb.leaf undefV) 0 (.str a0)) 1 (.int .i64 a1)) 4 (.int .i64 (0 : Int))) 5 (.int .i64 (0 : Int))) 6 (.int .i64 (0 : Int))) 7 (.int .i64 (0 : Int))) 8 (.int .i64 (0 : Int))) 9 (.ptr p0 0)) 22 (.int .i64 a1)) 23 (.bool true)) 24 (.bool true)) 25 undefV) 26 undefV) 27 undefV) 28 undefV) 29 (.bool true)) 30 (.agg [(.int .i64 (2 : Int)), (.int .i64 (0 : Int))])) 4 (.int .i64 (0 : Int))) 5 (.int .i64 (0 : Int))) 6 (.int .i64 (0 : Int))) 7 (.int .i64 (0 : Int))) 8 (.int .i64 (0 : Int))), [], h2⟩) ∧ (¬(a1 < (0 : Int)) → (((Int.ofNat (List.length a0)) < a1 → ∃ h3, ast ctx 27 h1 (.ptr p0 0) (.agg [(.int .i64 (2 : Int)), (.int .i64 (0 : Int))]) = some h3 ∧ (endW ctx ⟨127, [.tmp 4, .tmp 5, .tmp 6, .tmp 7, .tmp 8, .cell 9 27], b9⟩ Q) .ret ⟨127, (Tb.set (Tb.set (Tb.set (Tb.set (Tb.set (Tb.set (Tb.set (Tb.set (Tb.set (Tb.set (Tb.set (Tb.set (Tb.set (Tb.set (Tb.set (Tb.set (Tb.set (Tb.set (Tb.set (Tb.set (Tb.set (Tb.set (Tb.leaf undefV) 0 (.str a0)) 1 (.int .i64 a1)) 4 (.int .i64 (0 : Int))) 5 (.int .i64 (0 : Int))) 6 (.int .i64 (0 : Int))) 7 (.int .i64 (0 : Int))) 8 (.int .i64 (0 : Int))) 9 (.ptr p0 0)) 22 (.int .i64 a1)) 23 (.bool false)) 24 (.bool false)) 25 (.int .i64 a1)) 26 (.str a0)) 27 (.int .i64 (Int.ofNat (List.length a0)))) 28 (.bool true)) 29 (.bool true)) 30 (.agg [(.int .i64 (2 : Int)), (.int .i64 (0 : Int))])) 4 (.int .i64 (0 : Int))) 5 (.int .i64 (0 : Int))) 6 (.int .i64 (0 : Int))) 7 (.int .i64 (0 : Int))) 8 (.int .i64 (0 : Int))), [], h3⟩) ∧ (¬((Int.ofNat (List.length a0)) < a1) → (h1.next < T.top ∧ ∀ p4 h5, p4 = h1.next → h5 = h1.new (.cells (.ls [(.int .i64 (0 : Int)), (.int .i64 (0 : Int))]) ⟨0, 28, 0⟩ true false) → ∃ h6, ast ctx 27 h5 (.ptr p4 0) (.agg [(.int .i64 (20 : Int)), (.int .i64 a1)]) = some h6 ∧ ((a1 = (Int.ofNat (List.length a0)) → ((h6.next ≤ T.top ∧ h6.low ≤ T.top) ∧ ∃ (x7 : Int) (x8 : Int), ald ctx 27 h6 (.ptr p4 0) = some (.agg [(.int .i64 x7), (.int .i64 x8)]) ∧ ∃ h9, ast ctx 27 h6 (.ptr p0 0) (.agg [(.int .i64 x7), (.int .i64 x8)]) = some h9 ∧ (endW ctx ⟨127, [.tmp 4, .tmp 5, .tmp 6, .tmp 7, .tmp 8, .cell 9 27], b9⟩ Q) .ret ⟨127, (Tb.set (Tb.set (Tb.set (Tb.set (Tb.set (Tb.set (Tb.set (Tb.set (Tb.set (Tb.set (Tb.set (Tb.set (Tb.set (Tb.set (Tb.set (Tb.set (Tb.set (Tb.set (Tb.set (Tb.set (Tb.set (Tb.set (Tb.set (Tb.set (Tb.set (Tb.set (Tb.set (Tb.set (Tb.set (Tb.leaf undefV) 0 (.str a0)) 1 (.int .i64 a1)) 4 (.int .i64 (0 : Int))) 5 (.int .i64 (0 : Int))) 6 (.int .i64 (0 : Int))) 7 (.int .i64 (0 : Int))) 8 (.int .i64 (0 : Int))) 9 (.ptr p0 0)) 22 (.int .i64 a1)) 23 (.bool false)) 24 (.bool false)) 25 (.int .i64 a1)) 26 (.str a0)) 27 (.int .i64 (Int.ofNat (List.length a0)))) 28 (.bool false)) 29 (.bool false)) 31 (.int .i64 a1)) 32 (.agg [(.int .i64 (20 : Int)), (.int .i64 a1)])) 10 (.ptr p4 0)) 33 (.int .i64 a1)) 34 (.str a0)) 35 (.int .i64 (Int.ofNat (List.length a0)))) 36 (.bool true)) 37 (.agg [(.int .i64 x7), (.int .i64 x8)])) 4 (.int .i64 (0 : Int))) 5 (.int .i64 (0 : Int))) 6 (.int .i64 (0 : Int))) 7 (.int .i64 (0 : Int))) 8 (.int .i64 (0 : Int))), [], h9⟩)) ∧ (¬(a1 = (Int.ofNat (List.length a0))) → ((h6.next ≤ T.top ∧ h6.low ≤ T.top) ∧ ∃ (x10 : Int), aindex ctx 9 (.str a0) (.int .i64 a1) = some (.int .u8 x10) ∧ ((4 : Int) ≠ 0 ∧ ∃ (x11 : Int), aindex ctx 9 (.str a0) (.int .i64 a1) = some (.int .u8 x11) ∧ ((4 : Int) ≠ 0 ∧ ((4 : Int) ≠ 0 ∧ (((w64 ((Int.tmod x10 (4 : Int)))) < (2 : Int) → (((w64 ((Int.tmod (wrapF .u8 (Int.tdiv x11 (4 : Int))) (4 : Int)))) = (2 : Int) → RF Tryz.prog ctx 17 [(.int .i64 (w64 ((Int.tmod x10 (4 : Int)))))] h6 (fun v12 h13 => ∃ (v14 : V), v12 = v14 ∧ wpC Tryz.prog ctx false (.loop l9_0) ⟨127, (Tb.set (Tb.set (Tb.set (Tb.set (Tb.set (Tb.set (Tb.set (Tb.set (Tb.set (Tb.set (Tb.set (Tb.set (Tb.set (Tb.set (Tb.set (Tb.set (Tb.set (Tb.set (Tb.set (Tb.set (Tb.set (Tb.set (Tb.set (Tb.set (Tb.set (Tb.set (Tb.set (Tb.set (Tb.set (Tb.set (Tb.set (Tb.set (Tb.set (Tb.set (Tb.set (Tb.set (Tb.set (Tb.set (Tb.set (Tb.set (Tb.set (Tb.set (Tb.set (Tb.set (Tb.set (Tb.set (Tb.set (Tb.leaf undefV) 0 (.str a0)) 1 (.int .i64 a1)) 4 (.int .i64 (0 : Int))) 5 (.int .i64 (0 : Int))) 6 (.int .i64 (0 : Int))) 7 (.int .i64 (0 : Int))) 8 (.int .i64 (0 : Int))) 9 (.ptr p0 0)) 22 (.int .i64 a1)) 23 (.bool false)) 24 (.bool false)) 25 (.int .i64 a1)) 26 (.str a0)) 27 (.int .i64 (Int.ofNat (List.length a0)))) 28 (.bool false)) 29 (.bool false)) 31 (.int .i64 a1)) 32 (.agg [(.int .i64 (20 : Int)), (.int .i64 a1)])) 10 (.ptr p4 0)) 33 (.int .i64 a1)) 34 (.str a0)) 35 (.int .i64 (Int.ofNat (List.length a0)))) 36 (.bool false)) 38 (.str a0)) 39 (.int .i64 a1)) 40 (.int .u8 x10)) 41 (.int .u8 (Int.tmod x10 (4 : Int)))) 42 (.int .i64 (w64 ((Int.tmod x10 (4 : Int)))))) 43 (.str a0)) 44 (.int .i64 a1)) 45 (.int .u8 x11)) 46 (.int .u8 (wrapF .u8 (Int.tdiv x11 (4 : Int))))) 47 (.int .u8 (Int.tmod (wrapF .u8 (Int.tdiv x11 (4 : Int))) (4 : Int)))) 48 (.int .i64 (w64 ((Int.tmod (wrapF .u8 (Int.tdiv x11 (4 : Int))) (4 : Int)))))) 11 (.int .i64 (w64 ((Int.tmod x10 (4 : Int)))))) 12 (.int .i64 (w64 ((Int.tmod (wrapF .u8 (Int.tdiv x11 (4 : Int))) (4 : Int)))))) 49 (.int .i64 (w64 ((Int.tmod x10 (4 : Int)))))) 50 (.bool true)) 51 (.bool true)) 52 (.int .i64 (w64 ((Int.tmod (wrapF .u8 (Int.tdiv x11 (4 : Int))) (4 : Int)))))) 53 (.bool true)) 54 (.bool true)) 12 (.int .i64 (0 : Int))) 55 (.int .i64 (w64 ((Int.tmod x10 (4 : Int)))))) 56 v14) 13 v14) 14 (.int .i64 (0 : Int))), [], h13⟩ (fun e s1 => (thenC (fun s1 => wpC Tryz.prog ctx false r9_1 s1 (endW ctx ⟨127, [.tmp 4, .tmp 5, .tmp 6, .tmp 7, .tmp 8, .cell 9 27], b9⟩ Q)) (endW ctx ⟨127, [.tmp 4, .tmp 5, .tmp 6, .tmp 7, .tmp 8, .cell 9 27], b9⟩ Q)) (exitB 0 e) s1))) ∧ (¬((w64 ((Int.tmod (wrapF .u8 (Int.tdiv x11 (4 : Int))) (4 : Int)))) = (2 : Int)) → RF Tryz.prog ctx 17 [(.int .i64 (w64 ((Int.tmod x10 (4 : Int)))))] h6 (fun v15 h16 => ∃ (v17 : V), v15 = v17 ∧ wpC Tryz.prog ctx false (.loop l9_0) ⟨127, (Tb.set (Tb.set (Tb.set (Tb.set (Tb.set (Tb.set (Tb.set (Tb.set (Tb.set (Tb.set (Tb.set (Tb.set (Tb.set (Tb.set (Tb.set (Tb.set (Tb.set (Tb.set (Tb.set (Tb.set (Tb.set (Tb.set (Tb.set (Tb.set (Tb.set (Tb.set (Tb.set (Tb.set (Tb.set (Tb.set (Tb.set (Tb.set (Tb.set (Tb.set (Tb.set (Tb.set (Tb.set (Tb.set (Tb.set (Tb.set (Tb.set (Tb.set (Tb.set (Tb.set (Tb.set (Tb.set (Tb.leaf undefV) 0 (.str a0)) 1 (.int .i64 a1)) 4 (.int .i64 (0 : Int))) 5 (.int .i64 (0 : Int))) 6 (.int .i64 (0 : Int))) 7 (.int .i64 (0 : Int))) 8 (.int .i64 (0 : Int))) 9 (.ptr p0 0)) 22 (.int .i64 a1)) 23 (.bool false)) 24 (.bool false)) 25 (.int .i64 a1)) 26 (.str a0)) 27 (.int .i64 (Int.ofNat (List.length a0)))) 28 (.bool false)) 29 (.bool false)) 31 (.int .i64 a1)) 32 (.agg [(.int .i64 (20 : Int)), (.int .i64 a1)])) 10 (.ptr p4 0)) 33 (.int .i64 a1)) 34 (.str a0)) 35 (.int .i64 (Int.ofNat (List.length a0)))) 36 (.bool false)) 38 (.str a0)) 39 (.int .i64 a1)) 40 (.int .u8 x10)) 41 (.int .u8 (Int.tmod x10 (4 : Int)))) 42 (.int .i64 (w64 ((Int.tmod x10 (4 : Int)))))) 43 (.str a0)) 44 (.int .i64 a1)) 45 (.int .u8 x11)) 46 (.int .u8 (wrapF .u8 (Int.tdiv x11 (4 : Int))))) 47 (.int .u8 (Int.tmod (wrapF .u8 (Int.tdiv x11 (4 : Int))) (4 : Int)))) 48 (.int .i64 (w64 ((Int.tmod (wrapF .u8 (Int.tdiv x11 (4 : Int))) (4 : Int)))))) 11 (.int .i64 (w64 ((Int.tmod x10 (4 : Int)))))) 12 (.int .i64 (w64 ((Int.tmod (wrapF .u8 (Int.tdiv x11 (4 : Int))) (4 : Int)))))) 49 (.int .i64 (w64 ((Int.tmod x10 (4 : Int)))))) 50 (.bool true)) 51 (.bool true)) 52 (.int .i64 (w64 ((Int.tmod (wrapF .u8 (Int.tdiv x11 (4 : Int))) (4 : Int)))))) 53 (.bool false)) 54 (.bool false)) 55 (.int .i64 (w64 ((Int.tmod x10 (4 : Int)))))) 56 v17) 13 v17) 14 (.int .i64 (0 : Int))), [], h16⟩ (fun e s1 => (thenC (fun s1 => wpC Tryz.prog ctx false r9_1 s1 (endW ctx ⟨127, [.tmp 4, .tmp 5, .tmp 6, .tmp 7, .tmp 8, .cell 9 27], b9⟩ Q)) (endW ctx ⟨127, [.tmp 4, .tmp 5, .tmp 6, .tmp 7, .tmp 8, .cell 9 27], b9⟩ Q)) (exitB 0 e) s1))))) ∧ (¬((w64 ((Int.tmod x10 (4 : Int)))) < (2 : Int)) → RF Tryz.prog ctx 17 [(.int .i64 (w64 ((Int.tmod x10 (4 : Int)))))] h6 (fun v18 h19 => ∃ (v20 : V), v18 = v20 ∧ wpC Tryz.prog ctx false (.loop l9_0) ⟨127, (Tb.set (Tb.set (Tb.set (Tb.set (Tb.set (Tb.set (Tb.set (Tb.set (Tb.set (Tb.set (Tb.set (Tb.set (Tb.set (Tb.set (Tb.set (Tb.set (Tb.set (Tb.set (Tb.set (Tb.set (Tb.set (Tb.set (Tb.set (Tb.set (Tb.set (Tb.set (Tb.set (Tb.set (Tb.set (Tb.set (Tb.set (Tb.set (Tb.set (Tb.set (Tb.set (Tb.set (Tb.set (Tb.set (Tb.set (Tb.set (Tb.set (Tb.set (Tb.set (Tb.set (Tb.set (Tb.set (Tb.leaf undefV) 0 (.str a0)) 1 (.int .i64 a1)) 4 (.int .i64 (0 : Int))) 5 (.int .i64 (0 : Int))) 6 (.int .i64 (0 : Int))) 7 (.int .i64 (0 : Int))) 8 (.int .i64 (0 : Int))) 9 (.ptr p0 0)) 22 (.int .i64 a1)) 23 (.bool false)) 24 (.bool false)) 25 (.int .i64 a1)) 26 (.str a0)) 27 (.int .i64 (Int.ofNat (List.length a0)))) 28 (.bool false)) 29 (.bool false)) 31 (.int .i64 a1)) 32 (.agg [(.int .i64 (20 : Int)), (.int .i64 a1)])) 10 (.ptr p4 0)) 33 (.int .i64 a1)) 34 (.str a0)) 35 (.int .i64 (Int.ofNat (List.length a0)))) 36 (.bool false)) 38 (.str a0)) 39 (.int .i64 a1)) 40 (.int .u8 x10)) 41 (.int .u8 (Int.tmod x10 (4 : Int)))) 42 (.int .i64 (w64 ((Int.tmod x10 (4 : Int)))))) 43 (.str a0)) 44 (.int .i64 a1)) 45 (.int .u8 x11)) 46 (.int .u8 (wrapF .u8 (Int.tdiv x11 (4 : Int))))) 47 (.int .u8 (Int.tmod (wrapF .u8 (Int.tdiv x11 (4 : Int))) (4 : Int)))) 48 (.int .i64 (w64 ((Int.tmod (wrapF .u8 (Int.tdiv x11 (4 : Int))) (4 : Int)))))) 11 (.int .i64 (w64 ((Int.tmod x10 (4 : Int)))))) 12 (.int .i64 (w64 ((Int.tmod (wrapF .u8 (Int.tdiv x11 (4 : Int))) (4 : Int)))))) 49 (.int .i64 (w64 ((Int.tmod x10 (4 : Int)))))) 50 (.bool false)) 51 (.bool false)) 52 undefV) 53 undefV) 54 (.bool false)) 55 (.int .i64 (w64 ((Int.tmod x10 (4 : Int)))))) 56 v20) 13 v20) 14 (.int .i64 (0 : Int))), [], h19⟩ (fun e s1 => (thenC (fun s1 => wpC Tryz.prog ctx false r9_1 s1 (endW ctx ⟨127, [.tmp 4, .tmp 5, .tmp 6, .tmp 7, .tmp 8, .cell 9 27], b9⟩ Q)) (endW ctx ⟨127, [.tmp 4, .tmp 5, .tmp 6, .tmp 7, .tmp 8, .cell 9 27], b9⟩ Q)) (exitB 0 e) s1))))))))))))))))) := by kernel_rfl

/- cheesepress/cursor.Little -/
def b22 : Code :=
 (.seq
  (.region 0 ⟨[O1 (some 2) 0 (.box 50 (t 0)),
    O1 (some 4) 0 (.alloc 50),
    O1 (some 5) 47 (.assign (.const (.int .u64 (.ofNat 0))))]⟩ false)
  (.seq
   (.region 1 ⟨[O1 (some 8) 50 (.load 50 (t 2)),
     O1 (some 9) 80 (.call ⟨(.value (.func 34)), #[(t 8)], #[50]⟩),
     O1 (some 6) 80 (.assign (t 9))]⟩ false)
   (.seq
    (.seq
     (.region 2 ⟨[O1 (some 10) 80 (.move (t 6)),
       O1 (some 11) 4 (.call ⟨(.value (.func 38)), #[(t 10)], #[80]⟩),
       O1 (some 12) 4 (.unOp .not 4 (t 11)),
       O1 (some 13) 4 (.move (t 12)),
       O2 (some 14) 3 (.move (t 1)) (3, true),
       O2 (some 15) 4 (.binOp .lss 3 (t 14) (ci 1) 3) (3, true),
       O2 (some 16) 4 (.move (t 15)) (3, true),
       O2 (some 17) 3 (.move (t 1)) (6, false),
       O2 (some 18) 4 (.binOp .gtr 3 (t 17) (ci 8) 3) (6, false),
       O2 (some 19) 4 (.pick (t 16) (.const (.bool true)) (t 18)) (3, true),
       O1 (some 20) 4 (.pick (t 13) (t 19) (.const (.bool false)))]⟩ false)
     (.cond (t 20)
      (.region 3 ⟨[O1 (some 21) 80 (.move (t 6)),
        O1 (some 22) 80 (.move (t 6)),
        O1 (some 23) 0 (.nilCheck (t 22)),
        O1 (some 24) 0 (.fieldAddr 86 (t 23) 0),
        O1 (some 25) 0 (.fieldAddr 50 (t 24) 1),
        O1 (some 26) 3 (.load 3 (t 25)),
        O1 (some 27) 27 (.build 27 #[(0, (ci 2)), (1, (t 26))]),
        O1 (some 28) 0 (.nilCheck (t 21)),
        O1 (some 29) 0 (.fieldAddr 86 (t 28) 0),
        O1 (some 30) 0 (.fieldAddr 50 (t 29) 2),
        O1 none 0 (.store 27 (t 30) (t 27))]⟩ false)
      .skip))
    (.seq
     (.region 4 ⟨[O1 (some 31) 80 (.move (t 6)),
       O1 (some 32) 3 (.move (t 1)),
       O1 (some 33) 9 (.call ⟨(.value (.func 37)), #[(t 31), (t 32)], #[80, 3]⟩),
       O1 (some 7) 9 (.assign (t 33))]⟩ false)
     (.seq
      (.region 5 #[⟨(some 34), .move (t 6), 80, "cursor.go:115", #[], none⟩,
        ⟨(some 35), .nilCheck (t 34), 0, "cursor.go:115", #[⟨0, .data⟩], none⟩,
        ⟨(some 36), .fieldAddr 86 (t 35) 0, 0, "cursor.go:115", #[⟨1, .data⟩], none⟩,
        ⟨(some 37), .load 50 (t 36), 50, "cursor.go:115", #[⟨2, .data⟩], none⟩,
        ⟨(some 38), .move (t 7), 9, "cursor.go:115", #[], none⟩,
        ⟨(some 39), .call ⟨(.value (.func 36)), #[(t 38)], #[9]⟩, 47, "cursor.go:115", #[⟨4, .data⟩], none⟩,
        ⟨none, .store 50 (t 4) (t 37), 0, "cursor.go:115", #[⟨3, .data⟩, ⟨5, .chain⟩, ⟨0, .phase⟩, ⟨1, .phase⟩, ⟨2, .phase⟩, ⟨3, .phase⟩, ⟨4, .textOnly .lateStores⟩, ⟨5, .textOnly .lateStoresUnsure⟩], none⟩,
        ⟨(some 5), .assign (t 39), 47, "cursor.go:115", #[⟨5, .data⟩, ⟨6, .chain⟩, ⟨0, .phase⟩, ⟨1, .phase⟩, ⟨2, .phase⟩, ⟨3, .phase⟩, ⟨4, .phase⟩, ⟨5, .phase⟩, ⟨6, .phase⟩], none⟩] true)
      .ret)))))
theorem fn22 : (ctx.fn.get 22).map slimF = some ⟨40, [.cell 4 50, .tmp 5], b22⟩ := by kernel_rfl
theorem vb22 (a0_0 : List UInt8) (a0_1 : Int) (a0_2 : Int) (a0_3 : Int) (a1 : Int) (h : H) (Q : V → H → Prop) : wpC Tryz.prog ctx false b22 ⟨40, setArgs [(.agg [(.str a0_0), (.int .i64 a0_1), (.int .i64 a0_2), (.int .i64 a0_3)]), (.int .i64 a1)] 0 (Tb.leaf undefV), [], h⟩ (endW ctx ⟨40, [.cell 4 50, .tmp 5], b22⟩ Q) = ((h.next < T.top ∧ ∀ p0 h1, p0 = h.next → h1 = h.new (.cells (.ls [(.str a0_0), (.int .i64 a0_1), (.int .i64 a0_2), (.int .i64 a0_3)]) ⟨0, 51, 0⟩ true false) → (h1.next < T.top ∧ ∀ p2 h3, p2 = h1.next → h3 = h1.new (.cells (.ls [(.str []), (.int .i64 (0 : Int)), (.int .i64 (0 : Int)), (.int .i64 (0 : Int))]) ⟨0, 51, 0⟩ true false) → ∃ (l4 : List UInt8) (x5 : Int) (x6 : Int) (x7 : Int), ald ctx 50 h3 (.ptr p0 0) = some (.agg [(.str l4), (.int .i64 x5), (.int .i64 x6), (.int .i64 x7)]) ∧ RF Tryz.prog ctx 34 [(.agg [(.str l4), (.int .i64 x5), (.int .i64 x6), (.int .i64 x7)])] h3 (fun v8 h9 => ∃ (v10 : V), v8 = v10 ∧ RF Tryz.prog ctx 38 [v10] h9 (fun v11 h12 => ∃ (b13 : Bool), v11 = (.bool b13) ∧ ((b13 = true → RF Tryz.prog ctx 37 [v10, (.int .i64 a1)] h12 (fun v14 h15 => ∃ (l16 : List UInt8), v14 = (.str l16) ∧ ((h15.next ≤ T.top ∧ h15.low ≤ T.top) ∧ ∃ v17 h18, aop ctx ⟨none, .nilCheck (t 0), 0, "", #[], none⟩ (fun _ => some v10) (topH h15) = some (.val v17 h18) ∧ ((h15.next ≤ h18.low ∧ h18.next ≤ T.top) ∧ ∀ h19, h19 = lowM h15 h18 → wpFA ctx 86 0 h19 v17 (fun v20 h21 => ∃ (l22 : List UInt8) (x23 : Int) (x24 : Int) (x25 : Int), ald ctx 50 h21 v20 = some (.agg [(.str l22), (.int .i64 x23), (.int .i64 x24), (.int .i64 x25)]) ∧ RF Tryz.prog ctx 36 [(.str l16)] (topH h21) (fun v26 h27 => ∃ (x28 : Int), v26 = (.int .u64 x28) ∧ ((h21.next ≤ h27.low ∧ h27.next ≤ T.top) ∧ ∀ h29, h29 = lowM h21 h27 → ∃ h30, ast ctx 50 h29 (.ptr p2 0) (.agg [(.str l22), (.int .i64 x23), (.int .i64 x24), (.int .i64 x25)]) = some h30 ∧ (endW ctx ⟨40, [.cell 4 50, .tmp 5], b22⟩ Q) .ret ⟨40, (Tb.set (Tb.set (Tb.set (Tb.set (Tb.set (Tb.set (Tb.set (Tb.set (Tb.set (Tb.set (Tb.set (Tb.set (Tb.set (Tb.set (Tb.set (Tb.set (Tb.set (Tb.set (Tb.set (Tb.set (Tb.set (Tb.set (Tb.set (Tb.set (Tb.set (Tb.set (Tb.set (Tb.set (Tb.set (Tb.set (Tb.leaf undefV) 0 (.agg [(.str a0_0), (.int .i64 a0_1), (.int .i64 a0_2), (.int .i64 a0_3)])) 1 (.int .i64 a1)) 2 (.ptr p0 0)) 4 (.ptr p2 0)) 5 (.int .u64 (0 : Int))) 8 (.agg [(.str l4), (.int .i64 x5), (.int .i64 x6), (.int .i64 x7)])) 9 v10) 6 v10) 10 v10) 11 (.bool true)) 12 (.bool false)) 13 (.bool false)) 14 undefV) 15 undefV) 16 undefV) 17 undefV) 18 undefV) 19 undefV) 20 (.bool false)) 31 v10) 32 (.int .i64 a1)) 33 (.str l16)) 7 (.str l16)) 34 v10) 35 v17) 36 v20) 37 (.agg [(.str l22), (.int .i64 x23), (.int .i64 x24), (.int .i64 x25)])) 38 (.str l16)) 39 (.int .u64 x28)) 5 (.int .u64 x28)), [], h30⟩))))))) ∧ (b13 = false → ((a1 < (1 : Int) → ∃ v31 h32, aop ctx ⟨none, .nilCheck (t 0), 0, "", #[], none⟩ (fun _ => some v10) h12 = some (.val v31 h32) ∧ wpFA ctx 86 0 h32 v31 (fun v33 h34 => wpFA ctx 50 1 h34 v33 (fun v35 h36 => ∃ (x37 : Int), ald ctx 3 h36 v35 = some (.int .i64 x37) ∧ ∃ v38 h39, aop ctx ⟨none, .nilCheck (t 0), 0, "", #[], none⟩ (fun _ => some v10) h36 = some (.val v38 h39) ∧ wpFA ctx 86 0 h39 v38 (fun v40 h41 => wpFA ctx 50 2 h41 v40 (fun v42 h43 => ∃ h44, ast ctx 27 h43 v42 (.agg [(.int .i64 (2 : Int)), (.int .i64 x37)]) = some h44 ∧ RF Tryz.prog ctx 37 [v10, (.int .i64 a1)] h44 (fun v45 h46 => ∃ (l47 : List UInt8), v45 = (.str l47) ∧ ((h46.next ≤ T.top ∧ h46.low ≤ T.top) ∧ ∃ v48 h49, aop ctx ⟨none, .nilCheck (t 0), 0, "", #[], none⟩ (fun _ => some v10) (topH h46) = some (.val v48 h49) ∧ ((h46.next ≤ h49.low ∧ h49.next ≤ T.top) ∧ ∀ h50, h50 = lowM h46 h49 → wpFA ctx 86 0 h50 v48 (fun v51 h52 => ∃ (l53 : List UInt8) (x54 : Int) (x55 : Int) (x56 : Int), ald ctx 50 h52 v51 = some (.agg [(.str l53), (.int .i64 x54), (.int .i64 x55), (.int .i64 x56)]) ∧ RF Tryz.prog ctx 36 [(.str l47)] (topH h52) (fun v57 h58 => ∃ (x59 : Int), v57 = (.int .u64 x59) ∧ ((h52.next ≤ h58.low ∧ h58.next ≤ T.top) ∧ ∀ h60, h60 = lowM h52 h58 → ∃ h61, ast ctx 50 h60 (.ptr p2 0) (.agg [(.str l53), (.int .i64 x54), (.int .i64 x55), (.int .i64 x56)]) = some h61 ∧ (endW ctx ⟨40, [.cell 4 50, .tmp 5], b22⟩ Q) .ret ⟨40, (Tb.set (Tb.set (Tb.set (Tb.set (Tb.set (Tb.set (Tb.set (Tb.set (Tb.set (Tb.set (Tb.set (Tb.set (Tb.set (Tb.set (Tb.set (Tb.set (Tb.set (Tb.set (Tb.set (Tb.set (Tb.set (Tb.set (Tb.set (Tb.set (Tb.set (Tb.set (Tb.set (Tb.set (Tb.set (Tb.set (Tb.set (Tb.set (Tb.set (Tb.set (Tb.set (Tb.set (Tb.set (Tb.set (Tb.set (Tb.set (Tb.leaf undefV) 0 (.agg [(.str a0_0), (.int .i64 a0_1), (.int .i64 a0_2), (.int .i64 a0_3)])) 1 (.int .i64 a1)) 2 (.ptr p0 0)) 4 (.ptr p2 0)) 5 (.int .u64 (0 : Int))) 8 (.agg [(.str l4), (.int .i64 x5), (.int .i64 x6), (.int .i64 x7)])) 9 v10) 6 v10) 10 v10) 11 (.bool false)) 12 (.bool true)) 13 (.bool true)) 14 (.int .i64 a1)) 15 (.bool true)) 16 (.bool true)) 17 undefV) 18 undefV) 19 (.bool true)) 20 (.bool true)) 21 v10) 22 v10) 23 v31) 24 v33) 25 v35) 26 (.int .i64 x37)) 27 (.agg [(.int .i64 (2 : Int)), (.int .i64 x37)])) 28 v38) 29 v40) 30 v42) 31 v10) 32 (.int .i64 a1)) 33 (.str l47)) 7 (.str l47)) 34 v10) 35 v48) 36 v51) 37 (.agg [(.str l53), (.int .i64 x54), (.int .i64 x55), (.int .i64 x56)])) 38 (.str l47)) 39 (.int .u64 x59)) 5 (.int .u64 x59)), [], h61⟩))))))))))) ∧ (¬(a1 < (1 : Int)) → (((8 : Int) < a1 → ∃ v62 h63, aop ctx ⟨none, .nilCheck (t 0), 0, "", #[], none⟩ (fun _ => some v10) h12 = some (.val v62 h63) ∧ wpFA ctx 86 0 h63 v62 (fun v64 h65 => wpFA ctx 50 1 h65 v64 (fun v66 h67 => ∃ (x68 : Int), ald ctx 3 h67 v66 = some (.int .i64 x68) ∧ ∃ v69 h70, aop ctx ⟨none, .nilCheck (t 0), 0, "", #[], none⟩ (fun _ => some v10) h67 = some (.val v69 h70) ∧ wpFA ctx 86 0 h70 v69 (fun v71 h72 => wpFA ctx 50 2 h72 v71 (fun v73 h74 => ∃ h75, ast ctx 27 h74 v73 (.agg [(.int .i64 (2 : Int)), (.int .i64 x68)]) = some h75 ∧ RF Tryz.prog ctx 37 [v10, (.int .i64 a1)] h75 (fun v76 h77 => ∃ (l78 : List UInt8), v76 = (.str l78) ∧ ((h77.next ≤ T.top ∧ h77.low ≤ T.top) ∧ ∃ v79 h80, aop ctx ⟨none, .nilCheck (t 0), 0, "", #[], none⟩ (fun _ => some v10) (topH h77) = some (.val v79 h80) ∧ ((h77.next ≤ h80.low ∧ h80.next ≤ T.top) ∧ ∀ h81, h81 = lowM h77 h80 → wpFA ctx 86 0 h81 v79 (fun v82 h83 => ∃ (l84 : List UInt8) (x85 : Int) (x86 : Int) (x87 : Int), ald ctx 50 h83 v82 = some (.agg [(.str l84), (.int .i64 x85), (.int .i64 x86), (.int .i64 x87)]) ∧ RF Tryz.prog ctx 36 [(.str l78)] (topH h83) (fun v88 h89 => ∃ (x90 : Int), v88 = (.int .u64 x90) ∧ ((h83.next ≤ h89.low ∧ h89.next ≤ T.top) ∧ ∀ h91, h91 = lowM h83 h89 → ∃ h92, ast ctx 50 h91 (.ptr p2 0) (.agg [(.str l84), (.int .i64 x85), (.int .i64 x86), (.int .i64 x87)]) = some h92 ∧ (endW ctx ⟨40, [.cell 4 50, .tmp 5], b22⟩ Q) .ret ⟨40, (Tb.set (Tb.set (Tb.set (Tb.set (Tb.set (Tb.set (Tb.set (Tb.set (Tb.set (Tb.set (Tb.set (Tb.set (Tb.set (Tb.set (Tb.set (Tb.set (Tb.set (Tb.set (Tb.set (Tb.set (Tb.set (Tb.set (Tb.set (Tb.set (Tb.set (Tb.set (Tb.set (Tb.set (Tb.set (Tb.set (Tb.set (Tb.set (Tb.set (Tb.set (Tb.set (Tb.set (Tb.set (Tb.set (Tb.set (Tb.set (Tb.leaf undefV) 0 (.agg [(.str a0_0), (.int .i64 a0_1), (.int .i64 a0_2), (.int .i64 a0_3)])) 1 (.int .i64 a1)) 2 (.ptr p0 0)) 4 (.ptr p2 0)) 5 (.int .u64 (0 : Int))) 8 (.agg [(.str l4), (.int .i64 x5), (.int .i64 x6), (.int .i64 x7)])) 9 v10) 6 v10) 10 v10) 11 (.bool false)) 12 (.bool true)) 13 (.bool true)) 14 (.int .i64 a1)) 15 (.bool false)) 16 (.bool false)) 17 (.int .i64 a1)) 18 (.bool true)) 19 (.bool true)) 20 (.bool true)) 21 v10) 22 v10) 23 v62) 24 v64) 25 v66) 26 (.int .i64 x68)) 27 (.agg [(.int .i64 (2 : Int)), (.int .i64 x68)])) 28 v69) 29 v71) 30 v73) 31 v10) 32 (.int .i64 a1)) 33 (.str l78)) 7 (.str l78)) 34 v10) 35 v79) 36 v82) 37 (.agg [(.str l84), (.int .i64 x85), (.int .i64 x86), (.int .i64 x87)])) 38 (.str l78)) 39 (.int .u64 x90)) 5 (.int .u64 x90)), [], h92⟩))))))))))) ∧ (¬((8 : Int) < a1) → RF Tryz.prog ctx 37 [v10, (.int .i64 a1)] h12 (fun v93 h94 => ∃ (l95 : List UInt8), v93 = (.str l95) ∧ ((h94.next ≤ T.top ∧ h94.low ≤ T.top) ∧ ∃ v96 h97, aop ctx ⟨none, .nilCheck (t 0), 0, "", #[], none⟩ (fun _ => some v10) (topH h94) = some (.val v96 h97) ∧ ((h94.next ≤ h97.low ∧ h97.next ≤ T.top) ∧ ∀ h98, h98 = lowM h94 h97 → wpFA ctx 86 0 h98 v96 (fun v99 h100 => ∃ (l101 : List UInt8) (x102 : Int) (x103 : Int) (x104 : Int), ald ctx 50 h100 v99 = some (.agg [(.str l101), (.int .i64 x102), (.int .i64 x103), (.int .i64 x104)]) ∧ RF Tryz.prog ctx 36 [(.str l95)] (topH h100) (fun v105 h106 => ∃ (x107 : Int), v105 = (.int .u64 x107) ∧ ((h100.next ≤ h106.low ∧ h106.next ≤ T.top) ∧ ∀ h108, h108 = lowM h100 h106 → ∃ h109, ast ctx 50 h108 (.ptr p2 0) (.agg [(.str l101), (.int .i64 x102), (.int .i64 x103), (.int .i64 x104)]) = some h109 ∧ (endW ctx ⟨40, [.cell 4 50, .tmp 5], b22⟩ Q) .ret ⟨40, (Tb.set (Tb.set (Tb.set (Tb.set (Tb.set (Tb.set (Tb.set (Tb.set (Tb.set (Tb.set (Tb.set (Tb.set (Tb.set (Tb.set (Tb.set (Tb.set (Tb.set (Tb.set (Tb.set (Tb.set (Tb.set (Tb.set (Tb.set (Tb.set (Tb.set (Tb.set (Tb.set (Tb.set (Tb.set (Tb.set (Tb.leaf undefV) 0 (.agg [(.str a0_0), (.int .i64 a0_1), (.int .i64 a0_2), (.int .i64 a0_3)])) 1 (.int .i64 a1)) 2 (.ptr p0 0)) 4 (.ptr p2 0)) 5 (.int .u64 (0 : Int))) 8 (.agg [(.str l4), (.int .i64 x5), (.int .i64 x6), (.int .i64 x7)])) 9 v10) 6 v10) 10 v10) 11 (.bool false)) 12 (.bool true)) 13 (.bool true)) 14 (.int .i64 a1)) 15 (.bool false)) 16 (.bool false)) 17 (.int .i64 a1)) 18 (.bool false)) 19 (.bool false)) 20 (.bool false)) 31 v10) 32 (.int .i64 a1)) 33 (.str l95)) 7 (.str l95)) 34 v10) 35 v96) 36 v99) 37 (.agg [(.str l101), (.int .i64 x102), (.int .i64 x103), (.int .i64 x104)])) 38 (.str l95)) 39 (.int .u64 x107)) 5 (.int .u64 x107)), [], h109⟩))))))))))))))))) := by kernel_rfl

/- (*cheesepress/cursor.reader).done -/
def b35 : Code :=
 (.seq
  (.region 0 ⟨[O1 (some 4) 0 (.alloc 50),
    O1 (some 5) 3 (.assign (ci 0))]⟩ false)
  (.seq
   (.seq
    (.region 1 ⟨[O1 (some 6) 80 (.move (t 0)),
      O1 (some 7) 4 (.call ⟨(.value (.func 38)), #[(t 6)], #[80]⟩)]⟩ false)
    (.cond (t 7)
     (.region 2 ⟨[O1 (some 1) 3 (.assign (ci 0))]⟩ false)
     .skip))
   (.seq
    (.region 3 ⟨[O1 (some 8) 80 (.move (t 0)),
      O1 (some 9) 0 (.nilCheck (t 8)),
      O1 (some 10) 0 (.fieldAddr 86 (t 9) 0),
      O1 (some 11) 50 (.load 50 (t 10)),
      O1 (some 12) 3 (.move (t 1)),
      O1 none 0 (.store 50 (t 4) (t 11)),
      O1 (some 5) 3 (.assign (t 12))]⟩ false)
    .ret)))
theorem fn35 : (ctx.fn.get 35).map slimF = some ⟨13, [.cell 4 50, .tmp 5], b35⟩ := by kernel_rfl
theorem vb35 (a0 : V) (a1 : Int) (h : H) (Q : V → H → Prop) : wpC Tryz.prog ctx false b35 ⟨13, setArgs [a0, (.int .i64 a1)] 0 (Tb.leaf undefV), [], h⟩ (endW ctx ⟨13, [.cell 4 50, .tmp 5], b35⟩ Q) = ((h.next < T.top ∧ ∀ p0 h1, p0 = h.next → h1 = h.new (.cells (.ls [(.str []), (.int .i64 (0 : Int)), (.int .i64 (0 : Int)), (.int .i64 (0 : Int))]) ⟨0, 51, 0⟩ true false) → RF Tryz.prog ctx 38 [a0] h1 (fun v2 h3 => ∃ (b4 : Bool), v2 = (.bool b4) ∧ ((b4 = true → ∃ v5 h6, aop ctx ⟨none, .nilCheck (t 0), 0, "", #[], none⟩ (fun _ => some a0) h3 = some (.val v5 h6) ∧ wpFA ctx 86 0 h6 v5 (fun v7 h8 => ∃ (l9 : List UInt8) (x10 : Int) (x11 : Int) (x12 : Int), ald ctx 50 h8 v7 = some (.agg [(.str l9), (.int .i64 x10), (.int .i64 x11), (.int .i64 x12)]) ∧ ∃ h13, ast ctx 50 h8 (.ptr p0 0) (.agg [(.str l9), (.int .i64 x10), (.int .i64 x11), (.int .i64 x12)]) = some h13 ∧ (endW ctx ⟨13, [.cell 4 50, .tmp 5], b35⟩ Q) .ret ⟨13, (Tb.set (Tb.set (Tb.set (Tb.set (Tb.set (Tb.set (Tb.set (Tb.set (Tb.set (Tb.set (Tb.set (Tb.set (Tb.set (Tb.leaf undefV) 0 a0) 1 (.int .i64 a1)) 4 (.ptr p0 0)) 5 (.int .i64 (0 : Int))) 6 a0) 7 (.bool true)) 1 (.int .i64 (0 : Int))) 8 a0) 9 v5) 10 v7) 11 (.agg [(.str l9), (.int .i64 x10), (.int .i64 x11), (.int .i64 x12)])) 12 (.int .i64 (0 : Int))) 5 (.int .i64 (0 : Int))), [], h13⟩)) ∧ (b4 = false → ∃ v14 h15, aop ctx ⟨none, .nilCheck (t 0), 0, "", #[], none⟩ (fun _ => some a0) h3 = some (.val v14 h15) ∧ wpFA ctx 86 0 h15 v14 (fun v16 h17 => ∃ (l18 : List UInt8) (x19 : Int) (x20 : Int) (x21 : Int), ald ctx 50 h17 v16 = some (.agg [(.str l18), (.int .i64 x19), (.int .i64 x20), (.int .i64 x21)]) ∧ ∃ h22, ast ctx 50 h17 (.ptr p0 0) (.agg [(.str l18), (.int .i64 x19), (.int .i64 x20), (.int .i64 x21)]) = some h22 ∧ (endW ctx ⟨13, [.cell 4 50, .tmp 5], b35⟩ Q) .ret ⟨13, (Tb.set (Tb.set (Tb.set (Tb.set (Tb.set (Tb.set (Tb.set (Tb.set (Tb.set (Tb.set (Tb.set (Tb.set (Tb.leaf undefV) 0 a0) 1 (.int .i64 a1)) 4 (.ptr p0 0)) 5 (.int .i64 (0 : Int))) 6 a0) 7 (.bool false)) 8 a0) 9 v14) 10 v16) 11 (.agg [(.str l18), (.int .i64 x19), (.int .i64 x20), (.int .i64 x21)])) 12 (.int .i64 a1)) 5 (.int .i64 a1)), [], h22⟩)))))) := by kernel_rfl

/- (*cheesepress/cursor.reader).bad -/
def b38 : Code :=
 (.seq
  (.region 0 ⟨[O1 (some 2) 4 (.assign (.const (.bool false)))]⟩ false)
  (.seq
   (.region 1 ⟨[O1 (some 3) 80 (.move (t 0)),
     O1 (some 4) 0 (.nilCheck (t 3)),
     O1 (some 5) 0 (.fieldAddr 86 (t 4) 0),
     O1 (some 6) 0 (.fieldAddr 50 (t 5) 2),
     O1 (some 7) 0 (.fieldAddr 27 (t 6) 0),
     O1 (some 8) 23 (.load 23 (t 7)),
     O1 (some 9) 4 (.binOp .neq 23 (t 8) (ci 0) 23),
     O1 (some 2) 4 (.assign (t 9))]⟩ false)
   .ret))
theorem fn38 : (ctx.fn.get 38).map slimF = some ⟨10, [.tmp 2], b38⟩ := by kernel_rfl
theorem vb38 (a0 : V) (h : H) (Q : V → H → Prop) : wpC Tryz.prog ctx false b38 ⟨10, setArgs [a0] 0 (Tb.leaf undefV), [], h⟩ (endW ctx ⟨10, [.tmp 2], b38⟩ Q) = (∃ v0 h1, aop ctx ⟨none, .nilCheck (t 0), 0, "", #[], none⟩ (fun _ => some a0) h = some (.val v0 h1) ∧ wpFA ctx 86 0 h1 v0 (fun v2 h3 => wpFA ctx 50 2 h3 v2 (fun v4 h5 => wpFA ctx 27 0 h5 v4 (fun v6 h7 => ∃ (x8 : Int), ald ctx 23 h7 v6 = some (.int .i64 x8) ∧ ((x8 ≠ (0 : Int) → Q (.bool true) h7) ∧ (¬(x8 ≠ (0 : Int)) → Q (.bool false) h7)))))) := by kernel_rfl

/- cheesepress/ints.field[uint64] -/
def l53_0 : Code :=
 (.seq
  (.region 3 ⟨[O1 (some 9) 4 (.binOp .lss 3 (t 8) (t 7) 3)]⟩ false)
  (.seq
   (.cond (t 9)
    .skip
    (.exit 0))
   (.seq
    (.block 1
     (.seq
      (.region 4 ⟨[O1 (some 10) 79 (.move (t 5)),
        O1 (some 11) 47 (.move (t 0)),
        O1 (some 12) 5 (.convert 47 5 (t 11)),
        O1 (some 13) 79 (.buildSlice 79 1 #[(0, (t 12))]),
        O1 (some 14) 79 (.call ⟨(.builtin .append), #[(t 10), (t 13)], #[79, 79]⟩),
        O1 (some 5) 79 (.assign (t 14))]⟩ false)
      (.region 5 ⟨[O1 (some 15) 47 (.move (t 0)),
        O1 (some 16) 47 (.binOp .shr 47 (t 15) (.const (.int .u64 (.ofNat 8))) 46),
        O1 (some 0) 47 (.assign (t 16))]⟩ false)))
    (.region 6 ⟨[O1 (some 17) 3 (.binOp .add 3 (t 8) (ci 1) 3),
      O1 (some 8) 3 (.move (t 17))]⟩ false))))
def r53_1 : Code :=
 (.seq
  (.region 7 ⟨[O1 (some 18) 79 (.move (t 5)),
    O1 (some 19) 9 (.convert 79 9 (t 18)),
    O1 (some 4) 9 (.assign (t 19))]⟩ false)
  .ret)
def b53 : Code :=
 (.seq
  (.region 0 ⟨[O1 (some 4) 9 (.assign (cs []))]⟩ false)
  (.seq
   (.region 1 ⟨[O1 (some 6) 79 (.makeSlice 79 (ci 0) (ci 8)),
     O1 (some 5) 79 (.assign (t 6))]⟩ false)
   (.seq
    (.seq
     (.region 2 ⟨[O1 (some 7) 3 (.move (t 1)),
       O1 (some 8) 3 (.move (ci 0))]⟩ false)
     (.block 0
      (.loop l53_0)))
    r53_1)))
theorem fn53 : (ctx.fn.get 53).map slimF = some ⟨20, [.tmp 4], b53⟩ := by kernel_rfl
theorem vl53_0 (tm : Tm) (y8 : Int) (y7 : Int) (y5 : V) (y0 : Int) (d : List AD) (h : H) (Q : AX → St → Prop) : wpC Tryz.prog ctx false l53_0 ⟨20, (Tb.set (Tb.set (Tb.set (Tb.set tm 8 (.int .i64 y8)) 7 (.int .i64 y7)) 5 y5) 0 (.int .u64 y0)), d, h⟩ (sealQ [4, 8, 7, 5, 0] Q) = (((y8 < y7 → ∃ v0 h1, abuildSlice ctx 79 1 [(0, (.int .u8 (wrapF .u8 (y0))))] h = some (v0, h1) ∧ (True ∧ ∃ v2 h3, aappend ctx 79 h1 y5 v0 = some (v2, h3) ∧ ∃ (x4 : Int), intB .shr .u64 y0 (8 : Int) = some (.int .u64 x4) ∧ (∀ tm', getV tm' 4 = getV tm 4 → getV tm' 8 = (.int .i64 (w64 (y8 + (1 : Int)))) → getV tm' 7 = (.int .i64 y7) → getV tm' 5 = v2 → getV tm' 0 = (.int .u64 x4) → Q .normal ⟨20, tm', d, h3⟩))) ∧ (¬(y8 < y7) → (∀ tm', getV tm' 4 = getV tm 4 → getV tm' 8 = (.int .i64 y8) → getV tm' 7 = (.int .i64 y7) → getV tm' 5 = y5 → getV tm' 0 = (.int .u64 y0) → Q (.exit 0) ⟨20, tm', d, h⟩)))) := by kernel_rfl
theorem vr53_1 (tm : Tm) (y5 : V) (d : List AD) (h : H) (Q : AX → St → Prop) : wpC Tryz.prog ctx false r53_1 ⟨20, (Tb.set tm 5 y5), d, h⟩ (sealQ [4, 8, 7, 5, 0] Q) = (wpConv ctx 79 9 h y5 (fun v0 h1 => (∀ tm', getV tm' 4 = v0 → getV tm' 8 = getV tm 8 → getV tm' 7 = getV tm 7 → getV tm' 5 = y5 → getV tm' 0 = getV tm 0 → Q .ret ⟨20, tm', d, h1⟩))) := by kernel_rfl
theorem vb53 (a0 : Int) (a1 : Int) (h : H) (Q : V → H → Prop) : wpC Tryz.prog ctx false b53 ⟨20, setArgs [(.int .u64 a0), (.int .i64 a1)] 0 (Tb.leaf undefV), [], h⟩ (endW ctx ⟨20, [.tmp 4], b53⟩ Q) = (∃ v0 h1, amake ctx 79 (.int .i64 (0 : Int)) (.int .i64 (8 : Int)) h = some (v0, h1) ∧ wpC Tryz.prog ctx false (.loop l53_0) ⟨20, (Tb.set (Tb.set (Tb.set (Tb.set (Tb.set (Tb.set (Tb.set (Tb.leaf undefV) 0 (.int .u64 a0)) 1 (.int .i64 a1)) 4 (.str [])) 6 v0) 5 v0) 7 (.int .i64 a1)) 8 (.int .i64 (0 : Int))), [], h1⟩ (fun e s1 => (thenC (fun s1 => wpC Tryz.prog ctx false r53_1 s1 (endW ctx ⟨20, [.tmp 4], b53⟩ Q)) (endW ctx ⟨20, [.tmp 4], b53⟩ Q)) (exitB 0 e) s1)) := by kernel_rfl

/- cheesepress/cursor.valid -/
def b54 : Code :=
 (.seq
  (.region 0 ⟨[O1 (some 1) 0 (.box 50 (t 0)),
    O1 (some 2) 4 (.assign (.const (.bool false)))]⟩ false)
  (.seq
   (.region 1 ⟨[O1 (some 4) 136 (.makeFunc (.func 75) #[] #[(t 1)]),
     O1 (some 3) 136 (.assign (t 4))]⟩ false)
   (.seq
    (.seq
     (.region 2 ⟨[O1 (some 5) 0 (.fieldAddr 50 (t 1) 2),
       O1 (some 6) 0 (.fieldAddr 27 (t 5) 0),
       O1 (some 7) 23 (.load 23 (t 6)),
       O1 (some 8) 4 (.binOp .eql 23 (t 7) (ci 0) 23)]⟩ false)
     (.cond (t 8)
      (.seq
       (.region 3 ⟨[O1 (some 9) 136 (.move (t 3)),
         O1 (some 10) 0 (.fieldAddr 50 (t 1) 1),
         O1 (some 11) 3 (.load 3 (t 10)),
         O1 (some 12) 4 (.call ⟨(.value (t 9)), #[(t 11)], #[3]⟩),
         O1 (some 13) 4 (.move (t 12)),
         O2 (some 14) 0 (.fieldAddr 50 (t 1) 2) (4, true),
         O2 (some 15) 0 (.fieldAddr 27 (t 14) 1) (4, true),
         O2 (some 16) 3 (.load 3 (t 15)) (4, true),
         O2 (some 17) 4 (.binOp .eql 3 (t 16) (ci 0) 3) (4, true),
         O1 (some 18) 4 (.pick (t 13) (t 17) (.const (.bool false))),
         O1 (some 2) 4 (.assign (t 18))]⟩ false)
       .ret)
      .skip))
    (.seq
     (.region 4 ⟨[O1 (some 19) 136 (.move (t 3)),
       O1 (some 20) 0 (.fieldAddr 50 (t 1) 1),
       O1 (some 21) 3 (.load 3 (t 20)),
       O1 (some 22) 4 (.call ⟨(.value (t 19)), #[(t 21)], #[3]⟩),
       O1 (some 23) 4 (.move (t 22)),
       O2 (some 24) 0 (.fieldAddr 50 (t 1) 2) (4, true),
       O2 (some 25) 0 (.fieldAddr 27 (t 24) 0) (4, true),
       O2 (some 26) 23 (.load 23 (t 25)) (4, true),
       O2 (some 27) 4 (.binOp .geq 23 (t 26) (ci 1) 23) (4, true),
       O1 (some 28) 4 (.pick (t 23) (t 27) (.const (.bool false))),
       O1 (some 29) 4 (.move (t 28)),
       O2 (some 30) 0 (.fieldAddr 50 (t 1) 2) (10, true),
       O2 (some 31) 0 (.fieldAddr 27 (t 30) 0) (10, true),
       O2 (some 32) 23 (.load 23 (t 31)) (10, true),
       O2 (some 33) 4 (.binOp .leq 23 (t 32) (ci 31) 23) (10, true),
       O1 (some 34) 4 (.pick (t 29) (t 33) (.const (.bool false))),
       O1 (some 35) 4 (.move (t 34)),
       O2 (some 36) 136 (.move (t 3)) (16, true),
       O2 (some 37) 0 (.fieldAddr 50 (t 1) 2) (16, true),
       O2 (some 38) 0 (.fieldAddr 27 (t 37) 1) (16, true),
       O2 (some 39) 3 (.load 3 (t 38)) (16, true),
       O2 (some 40) 4 (.call ⟨(.value (t 36)), #[(t 39)], #[3]⟩) (16, true),
       O1 (some 41) 4 (.pick (t 35) (t 40) (.const (.bool false))),
       O1 (some 2) 4 (.assign (t 41))]⟩ false)
     .ret))))
theorem fn54 : (ctx.fn.get 54).map slimF = some ⟨42, [.tmp 2], b54⟩ := by kernel_rfl
theorem vb54 (a0_0 : List UInt8) (a0_1 : Int) (a0_2 : Int) (a0_3 : Int) (h : H) (Q : V → H → Prop) : wpC Tryz.prog ctx false b54 ⟨42, setArgs [(.agg [(.str a0_0), (.int .i64 a0_1), (.int .i64 a0_2), (.int .i64 a0_3)])] 0 (Tb.leaf undefV), [], h⟩ (endW ctx ⟨42, [.tmp 2], b54⟩ Q) = ((h.next < T.top ∧ ∀ p0 h1, p0 = h.next → h1 = h.new (.cells (.ls [(.str a0_0), (.int .i64 a0_1), (.int .i64 a0_2), (.int .i64 a0_3)]) ⟨0, 51, 0⟩ true false) → ∃ (x2 : Int), ald ctx 23 h1 (.ptr p0 ((0 + 2) + 0)) = some (.int .i64 x2) ∧ ((x2 = (0 : Int) → ∃ (x3 : Int), ald ctx 3 h1 (.ptr p0 (0 + 1)) = some (.int .i64 x3) ∧ RF Tryz.prog ctx 75 [(.int .i64 x3), (.ptr p0 0)] h1 (fun v4 h5 => ∃ (b6 : Bool), v4 = (.bool b6) ∧ ((b6 = true → ∃ (x7 : Int), ald ctx 3 h5 (.ptr p0 ((0 + 2) + 1)) = some (.int .i64 x7) ∧ ((x7 = (0 : Int) → Q (.bool true) h5) ∧ (¬(x7 = (0 : Int)) → Q (.bool false) h5))) ∧ (b6 = false → Q (.bool false) h5)))) ∧ (¬(x2 = (0 : Int)) → ∃ (x8 : Int), ald ctx 3 h1 (.ptr p0 (0 + 1)) = some (.int .i64 x8) ∧ RF Tryz.prog ctx 75 [(.int .i64 x8), (.ptr p0 0)] h1 (fun v9 h10 => ∃ (b11 : Bool), v9 = (.bool b11) ∧ ((b11 = true → ∃ (x12 : Int), ald ctx 23 h10 (.ptr p0 ((0 + 2) + 0)) = some (.int .i64 x12) ∧ (((1 : Int) ≤ x12 → ∃ (x13 : Int), ald ctx 23 h10 (.ptr p0 ((0 + 2) + 0)) = some (.int .i64 x13) ∧ ((x13 ≤ (31 : Int) → ∃ (x14 : Int), ald ctx 3 h10 (.ptr p0 ((0 + 2) + 1)) = some (.int .i64 x14) ∧ RF Tryz.prog ctx 75 [(.int .i64 x14), (.ptr p0 0)] h10 (fun v15 h16 => ∃ (b17 : Bool), v15 = (.bool b17) ∧ ((b17 = true → Q (.bool true) h16) ∧ (b17 = false → Q (.bool false) h16)))) ∧ (¬(x13 ≤ (31 : Int)) → Q (.bool false) h10))) ∧ (¬((1 : Int) ≤ x12) → Q (.bool false) h10))) ∧ (b11 = false → Q (.bool false) h10))))))) := by kernel_rfl

/- (*cheesepress/cursor.reader).left -/
def b56 : Code :=
 (.seq
  (.region 0 ⟨[O1 (some 2) 3 (.assign (ci 0))]⟩ false)
  (.seq
   (.seq
    (.region 1 ⟨[O1 (some 3) 80 (.move (t 0)),
      O1 (some 4) 4 (.call ⟨(.value (.func 38)), #[(t 3)], #[80]⟩)]⟩ false)
    (.cond (t 4)
     (.seq
      (.region 2 ⟨[O1 (some 2) 3 (.assign (ci 0))]⟩ false)
      .ret)
     .skip))
   (.seq
    (.region 3 #[⟨(some 5), .move (t 0), 80, "cursor.go:34", #[], none⟩,
      ⟨(some 6), .nilCheck (t 5), 0, "cursor.go:34", #[⟨0, .data⟩], none⟩,
      ⟨(some 7), .fieldAddr 86 (t 6) 0, 0, "cursor.go:34", #[⟨1, .data⟩], none⟩,
      ⟨(some 8), .fieldAddr 50 (t 7) 0, 0, "cursor.go:34", #[⟨2, .data⟩], none⟩,
      ⟨(some 9), .load 9 (t 8), 9, "cursor.go:34", #[⟨3, .data⟩], none⟩,
      ⟨(some 10), .call ⟨(.builtin .len), #[(t 9)], #[9]⟩, 3, "cursor.go:34", #[⟨4, .data⟩], none⟩,
      ⟨(some 11), .move (t 0), 80, "cursor.go:34", #[], none⟩,
      ⟨(some 12), .nilCheck (t 11), 0, "cursor.go:34", #[⟨6, .data⟩], none⟩,
      ⟨(some 13), .fieldAddr 86 (t 12) 0, 0, "cursor.go:34", #[⟨7, .data⟩], none⟩,
      ⟨(some 14), .fieldAddr 50 (t 13) 1, 0, "cursor.go:34", #[⟨8, .data⟩], none⟩,
      ⟨(some 15), .load 3 (t 14), 3, "cursor.go:34", #[⟨9, .data⟩], none⟩,
      ⟨(some 16), .binOp .sub 3 (t 10) (t 15) 3, 3, "cursor.go:34", #[⟨5, .data⟩, ⟨10, .data⟩], none⟩,
      ⟨(some 2), .assign (t 16), 3, "cursor.go:34", #[⟨11, .data⟩, ⟨0, .phase⟩, ⟨1, .phase⟩, ⟨2, .phase⟩, ⟨3, .phase⟩, ⟨4, .phase⟩, ⟨5, .phase⟩, ⟨6, .phase⟩, ⟨7, .phase⟩, ⟨8, .phase⟩, ⟨9, .phase⟩, ⟨10, .phase⟩, ⟨11, .phase⟩], none⟩] true)
    .ret)))
theorem fn56 : (ctx.fn.get 56).map slimF = some ⟨17, [.tmp 2], b56⟩ := by kernel_rfl
theorem vb56 (a0 : V) (h : H) (Q : V → H → Prop) : wpC Tryz.prog ctx false b56 ⟨17, setArgs [a0] 0 (Tb.leaf undefV), [], h⟩ (endW ctx ⟨17, [.tmp 2], b56⟩ Q) = (RF Tryz.prog ctx 38 [a0] h (fun v0 h1 => ∃ (b2 : Bool), v0 = (.bool b2) ∧ ((b2 = true → Q (.int .i64 (0 : Int)) h1) ∧ (b2 = false → ((h1.next ≤ T.top ∧ h1.low ≤ T.top) ∧ ∃ v3 h4, aop ctx ⟨none, .nilCheck (t 0), 0, "", #[], none⟩ (fun _ => some a0) (topH h1) = some (.val v3 h4) ∧ ((h1.next ≤ h4.low ∧ h4.next ≤ T.top) ∧ ∀ h5, h5 = lowM h1 h4 → wpFA ctx 86 0 h5 v3 (fun v6 h7 => wpFA ctx 50 0 h7 v6 (fun v8 h9 => ∃ (l10 : List UInt8), ald ctx 9 h9 v8 = some (.str l10) ∧ ∃ v11 h12, aop ctx ⟨none, .nilCheck (t 0), 0, "", #[], none⟩ (fun _ => some a0) (topH h9) = some (.val v11 h12) ∧ ((h9.next ≤ h12.low ∧ h12.next ≤ T.top) ∧ ∀ h13, h13 = lowM h9 h12 → wpFA ctx 86 0 h13 v11 (fun v14 h15 => wpFA ctx 50 1 h15 v14 (fun v16 h17 => ∃ (x18 : Int), ald ctx 3 h17 v16 = some (.int .i64 x18) ∧ Q (.int .i64 (w64 ((Int.ofNat (List.length l10)) - x18))) h17))))))))))) := by kernel_rfl

end Go.Proofs.YtamddelaigcnkaaGreat


