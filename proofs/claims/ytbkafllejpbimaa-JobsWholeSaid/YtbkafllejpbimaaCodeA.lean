/- The functions' texts without their remarks, and the types, as the evaluator reads them; what holds behind each. No condition. -/
import Derived.Test.YtbkafllejpbimaaCtx
import Derived.Test.YtbkafllejpbimaaSimWp
namespace Go.Proofs.Ytbkafllejpbimaa
open Go.Sim

theorem ty0 : ctx.ty.get 0 = some ⟨0, (.tuple #[]), 1, 0, none, false, false, false, []⟩ := by kernel_rfl
theorem ty1 : ctx.ty.get 1 = some ⟨1, (.func #[] #[] false), 1, 8, some .nilFunc, false, false, false, []⟩ := by kernel_rfl
theorem ty2 : ctx.ty.get 2 = some ⟨2, (.int .i64), 1, 8, some (ip 0), true, false, false, []⟩ := by kernel_rfl
theorem ty3 : ctx.ty.get 3 = some ⟨3, (.int .i64), 1, 8, some (ip 0), true, false, false, []⟩ := by kernel_rfl
theorem ty4 : ctx.ty.get 4 = some ⟨4, .bool, 1, 1, some (.bool false), true, false, false, []⟩ := by kernel_rfl
theorem ty5 : ctx.ty.get 5 = some ⟨5, (.int .u8), 1, 1, some (.int .u8 (.ofNat 0)), true, false, false, []⟩ := by kernel_rfl
theorem ty6 : ctx.ty.get 6 = some ⟨6, (.int .u8), 1, 1, some (.int .u8 (.ofNat 0)), true, false, false, []⟩ := by kernel_rfl
theorem ty7 : ctx.ty.get 7 = some ⟨7, (.struct #[⟨"x", 2, 0, false, "", "runtime", 0⟩, ⟨"y", 3, 1, false, "", "runtime", 8⟩, ⟨"signed", 4, 2, false, "", "runtime", 16⟩, ⟨"code", 6, 3, false, "", "runtime", 17⟩]), 4, 24, some (.agg [(ip 0), (ip 0), (.bool false), (.int .u8 (.ofNat 0))]), true, false, false, []⟩ := by kernel_rfl
theorem ty8 : ctx.ty.get 8 = some ⟨8, (.struct #[⟨"x", 2, 0, false, "", "runtime", 0⟩, ⟨"y", 3, 1, false, "", "runtime", 8⟩, ⟨"signed", 4, 2, false, "", "runtime", 16⟩, ⟨"code", 6, 3, false, "", "runtime", 17⟩]), 4, 24, some (.agg [(ip 0), (ip 0), (.bool false), (.int .u8 (.ofNat 0))]), true, false, false, [⟨"Error", 104, #[], some (76, false)⟩, ⟨"RuntimeError", 1, #[], some (77, false)⟩]⟩ := by kernel_rfl
theorem ty9 : ctx.ty.get 9 = some ⟨9, .string, 1, 16, some (sb []), true, false, false, []⟩ := by kernel_rfl
theorem ty10 : ctx.ty.get 10 = some ⟨10, .string, 1, 16, some (sb []), true, false, false, [⟨"Error", 104, #[], some (78, false)⟩, ⟨"RuntimeError", 1, #[], some (79, false)⟩]⟩ := by kernel_rfl
theorem ty11 : ctx.ty.get 11 = some ⟨11, .string, 1, 16, some (sb []), true, false, false, [⟨"Error", 104, #[], some (80, false)⟩, ⟨"RuntimeError", 1, #[], some (81, false)⟩]⟩ := by kernel_rfl
theorem ty12 : ctx.ty.get 12 = some ⟨12, (.int .u64), 1, 8, some (.int .u64 (.ofNat 0)), true, false, false, []⟩ := by kernel_rfl
theorem ty13 : ctx.ty.get 13 = some ⟨13, (.struct #[⟨"msg", 9, 0, false, "", "runtime", 0⟩, ⟨"addr", 12, 1, false, "", "runtime", 16⟩]), 2, 24, some (.agg [(sb []), (.int .u64 (.ofNat 0))]), true, true, false, []⟩ := by kernel_rfl
theorem ty14 : ctx.ty.get 14 = some ⟨14, (.struct #[⟨"msg", 9, 0, false, "", "runtime", 0⟩, ⟨"addr", 12, 1, false, "", "runtime", 16⟩]), 2, 24, some (.agg [(sb []), (.int .u64 (.ofNat 0))]), true, true, false, [⟨"Error", 104, #[], some (82, false)⟩, ⟨"RuntimeError", 1, #[], some (83, false)⟩]⟩ := by kernel_rfl
theorem ty15 : ctx.ty.get 15 = some ⟨15, (.pointer 106), 1, 8, some .nilptr, true, false, false, [⟨"Error", 104, #[], some (84, true)⟩, ⟨"RuntimeError", 1, #[], some (85, true)⟩]⟩ := by kernel_rfl
theorem ty16 : ctx.ty.get 16 = some ⟨16, (.pointer 109), 1, 8, some .nilptr, true, false, false, [⟨"Error", 104, #[], some (86, true)⟩, ⟨"RuntimeError", 1, #[], some (87, true)⟩]⟩ := by kernel_rfl
theorem ty17 : ctx.ty.get 17 = some ⟨17, (.pointer 118), 1, 8, some .nilptr, true, false, false, [⟨"Align", 85, #[], some (88, true)⟩]⟩ := by kernel_rfl
theorem ty18 : ctx.ty.get 18 = some ⟨18, (.struct #[⟨"typ", 17, 0, false, "", "internal/runtime/maps", 0⟩]), 1, 8, some (.agg [.nilptr]), true, true, false, []⟩ := by kernel_rfl
theorem ty19 : ctx.ty.get 19 = some ⟨19, (.struct #[⟨"typ", 17, 0, false, "", "internal/runtime/maps", 0⟩]), 1, 8, some (.agg [.nilptr]), true, true, false, [⟨"Error", 104, #[], some (89, false)⟩, ⟨"RuntimeError", 1, #[], some (90, false)⟩]⟩ := by kernel_rfl
theorem ty20 : ctx.ty.get 20 = some ⟨20, (.interface #[]), 1, 16, some .nilIface, true, false, false, []⟩ := by kernel_rfl
theorem ty21 : ctx.ty.get 21 = some ⟨21, (.int .i32), 1, 4, some (.int .i32 (.ofNat 0)), true, false, false, []⟩ := by kernel_rfl
theorem ty22 : ctx.ty.get 22 = some ⟨22, (.slice 3), 1, 24, some .nilslice, false, false, false, []⟩ := by kernel_rfl
theorem ty23 : ctx.ty.get 23 = some ⟨23, (.struct #[⟨"Level", 3, 0, false, "", "", 0⟩, ⟨"Window", 3, 1, false, "", "", 8⟩, ⟨"Job", 3, 2, false, "", "", 16⟩, ⟨"Overlap", 3, 3, false, "", "", 24⟩, ⟨"Sync", 4, 4, false, "", "", 32⟩, ⟨"Check", 4, 5, false, "", "", 33⟩]), 6, 40, some (.agg [(ip 0), (ip 0), (ip 0), (ip 0), (.bool false), (.bool false)]), true, false, false, []⟩ := by kernel_rfl
theorem ty24 : ctx.ty.get 24 = some ⟨24, (.struct #[⟨"Level", 3, 0, false, "", "", 0⟩, ⟨"Window", 3, 1, false, "", "", 8⟩, ⟨"Job", 3, 2, false, "", "", 16⟩, ⟨"Overlap", 3, 3, false, "", "", 24⟩, ⟨"Sync", 4, 4, false, "", "", 32⟩, ⟨"Check", 4, 5, false, "", "", 33⟩]), 6, 40, some (.agg [(ip 0), (ip 0), (ip 0), (ip 0), (.bool false), (.bool false)]), true, false, false, []⟩ := by kernel_rfl
theorem ty25 : ctx.ty.get 25 = some ⟨25, (.func #[3] #[24] false), 1, 8, some .nilFunc, false, false, false, []⟩ := by kernel_rfl
theorem ty26 : ctx.ty.get 26 = some ⟨26, (.func #[3, 3] #[3] false), 1, 8, some .nilFunc, false, false, false, []⟩ := by kernel_rfl
theorem ty27 : ctx.ty.get 27 = some ⟨27, (.slice 33), 1, 24, some .nilslice, false, false, false, []⟩ := by kernel_rfl
theorem ty28 : ctx.ty.get 28 = some ⟨28, (.int .i64), 1, 8, some (ip 0), true, false, false, [⟨"Error", 104, #[], some (91, false)⟩]⟩ := by kernel_rfl
theorem ty29 : ctx.ty.get 29 = some ⟨29, (.tuple #[27, 28]), 1, 0, none, false, false, false, []⟩ := by kernel_rfl
theorem ty30 : ctx.ty.get 30 = some ⟨30, (.func #[24, 22] #[27, 28] false), 1, 8, some .nilFunc, false, false, false, []⟩ := by kernel_rfl
theorem ty31 : ctx.ty.get 31 = some ⟨31, (.func #[24, 27] #[28] false), 1, 8, some .nilFunc, false, false, false, []⟩ := by kernel_rfl
theorem ty32 : ctx.ty.get 32 = some ⟨32, (.struct #[⟨"From", 3, 0, false, "", "", 0⟩, ⟨"To", 3, 1, false, "", "", 8⟩, ⟨"Prefix", 3, 2, false, "", "", 16⟩]), 3, 24, some (.agg [(ip 0), (ip 0), (ip 0)]), true, false, false, []⟩ := by kernel_rfl
theorem ty33 : ctx.ty.get 33 = some ⟨33, (.struct #[⟨"From", 3, 0, false, "", "", 0⟩, ⟨"To", 3, 1, false, "", "", 8⟩, ⟨"Prefix", 3, 2, false, "", "", 16⟩]), 3, 24, some (.agg [(ip 0), (ip 0), (ip 0)]), true, false, false, []⟩ := by kernel_rfl
theorem ty34 : ctx.ty.get 34 = some ⟨34, (.func #[] #[4] false), 1, 8, some .nilFunc, false, false, false, []⟩ := by kernel_rfl
theorem ty35 : ctx.ty.get 35 = some ⟨35, (.func #[22, 3] #[4] false), 1, 8, some .nilFunc, false, false, false, []⟩ := by kernel_rfl
theorem ty36 : ctx.ty.get 36 = some ⟨36, (.func #[22] #[22] false), 1, 8, some .nilFunc, false, false, false, []⟩ := by kernel_rfl
theorem ty37 : ctx.ty.get 37 = some ⟨37, (.func #[27, 27] #[4] false), 1, 8, some .nilFunc, false, false, false, []⟩ := by kernel_rfl
theorem ty38 : ctx.ty.get 38 = some ⟨38, (.func #[22, 22] #[4] false), 1, 8, some .nilFunc, false, false, false, []⟩ := by kernel_rfl
theorem ty39 : ctx.ty.get 39 = some ⟨39, (.tuple #[22, 28]), 1, 0, none, false, false, false, []⟩ := by kernel_rfl
theorem ty40 : ctx.ty.get 40 = some ⟨40, (.func #[24, 27] #[22, 28] false), 1, 8, some .nilFunc, false, false, false, []⟩ := by kernel_rfl
theorem ty41 : ctx.ty.get 41 = some ⟨41, (.tuple #[9, 9, 28]), 1, 0, none, false, false, false, []⟩ := by kernel_rfl
theorem ty42 : ctx.ty.get 42 = some ⟨42, (.func #[9, 33] #[9, 9, 28] false), 1, 8, some .nilFunc, false, false, false, []⟩ := by kernel_rfl
theorem ty43 : ctx.ty.get 43 = some ⟨43, (.func #[24, 22, 27, 9, 33] #[4] false), 1, 8, some .nilFunc, false, false, false, []⟩ := by kernel_rfl
theorem ty44 : ctx.ty.get 44 = some ⟨44, (.func #[22, 3] #[9] false), 1, 8, some .nilFunc, false, false, false, []⟩ := by kernel_rfl
theorem ty45 : ctx.ty.get 45 = some ⟨45, (.func #[24, 9] #[27, 28] false), 1, 8, some .nilFunc, false, false, false, []⟩ := by kernel_rfl
theorem ty46 : ctx.ty.get 46 = some ⟨46, (.tuple #[3, 28]), 1, 0, none, false, false, false, []⟩ := by kernel_rfl
theorem ty47 : ctx.ty.get 47 = some ⟨47, (.func #[24] #[3, 28] false), 1, 8, some .nilFunc, false, false, false, []⟩ := by kernel_rfl
theorem ty48 : ctx.ty.get 48 = some ⟨48, (.func #[24] #[28] false), 1, 8, some .nilFunc, false, false, false, []⟩ := by kernel_rfl
theorem ty49 : ctx.ty.get 49 = some ⟨49, (.func #[51] #[28] false), 1, 8, some .nilFunc, false, false, false, []⟩ := by kernel_rfl
theorem ty50 : ctx.ty.get 50 = some ⟨50, (.func #[] #[28] false), 1, 8, some .nilFunc, false, false, false, []⟩ := by kernel_rfl
theorem ty51 : ctx.ty.get 51 = some ⟨51, (.slice 3), 1, 24, some .nilslice, false, false, false, [⟨"cheesepress/jobs.bounded", 50, #[], some (25, false)⟩, ⟨"cheesepress/jobs.many", 50, #[], some (24, false)⟩, ⟨"cheesepress/jobs.sorted", 50, #[], some (26, false)⟩]⟩ := by kernel_rfl
theorem ty52 : ctx.ty.get 52 = some ⟨52, (.array 3 49), 3, 24, some (.agg [.nilFunc, .nilFunc, .nilFunc]), false, false, false, []⟩ := by kernel_rfl
theorem ty53 : ctx.ty.get 53 = some ⟨53, (.func #[24, 22] #[27] false), 1, 8, some .nilFunc, false, false, false, []⟩ := by kernel_rfl
theorem ty54 : ctx.ty.get 54 = some ⟨54, (.func #[27, 55] #[22] false), 1, 8, some .nilFunc, false, false, false, []⟩ := by kernel_rfl
theorem ty55 : ctx.ty.get 55 = some ⟨55, (.func #[33] #[3] false), 1, 8, some .nilFunc, false, false, false, []⟩ := by kernel_rfl
theorem ty56 : ctx.ty.get 56 = some ⟨56, (.func #[22, 27] #[4] true), 1, 8, some .nilFunc, false, false, false, []⟩ := by kernel_rfl
theorem ty57 : ctx.ty.get 57 = some ⟨57, (.func #[24, 3] #[3, 28] false), 1, 8, some .nilFunc, false, false, false, []⟩ := by kernel_rfl
theorem ty58 : ctx.ty.get 58 = some ⟨58, (.slice 9), 1, 24, some .nilslice, false, false, false, []⟩ := by kernel_rfl
theorem ty59 : ctx.ty.get 59 = some ⟨59, (.func #[3, 3, 3] #[9] false), 1, 8, some .nilFunc, false, false, false, []⟩ := by kernel_rfl
theorem ty60 : ctx.ty.get 60 = some ⟨60, (.func #[24, 9] #[22, 28] false), 1, 8, some .nilFunc, false, false, false, []⟩ := by kernel_rfl
theorem ty61 : ctx.ty.get 61 = some ⟨61, (.func #[3, 3, 3] #[4] false), 1, 8, some .nilFunc, false, false, false, []⟩ := by kernel_rfl
theorem ty62 : ctx.ty.get 62 = some ⟨62, (.func #[51] #[3] false), 1, 8, some .nilFunc, false, false, false, []⟩ := by kernel_rfl
theorem ty63 : ctx.ty.get 63 = some ⟨63, (.func #[51] #[4] false), 1, 8, some .nilFunc, false, false, false, []⟩ := by kernel_rfl
theorem ty64 : ctx.ty.get 64 = some ⟨64, (.func #[76] #[] false), 1, 8, some .nilFunc, false, false, false, []⟩ := by kernel_rfl
theorem ty65 : ctx.ty.get 65 = some ⟨65, (.func #[76] #[] false), 1, 8, some .nilFunc, false, false, false, []⟩ := by kernel_rfl
theorem ty66 : ctx.ty.get 66 = some ⟨66, (.func #[24, 22] #[65] false), 1, 8, some .nilFunc, false, false, false, []⟩ := by kernel_rfl
theorem ty67 : ctx.ty.get 67 = some ⟨67, (.func #[] #[24] false), 1, 8, some .nilFunc, false, false, false, []⟩ := by kernel_rfl
theorem ty68 : ctx.ty.get 68 = some ⟨68, (.func #[24, 3] #[22, 28] false), 1, 8, some .nilFunc, false, false, false, []⟩ := by kernel_rfl
theorem ty69 : ctx.ty.get 69 = some ⟨69, (.slice 5), 1, 24, some .nilslice, false, false, false, []⟩ := by kernel_rfl
theorem ty70 : ctx.ty.get 70 = some ⟨70, (.func #[24, 9] #[28] false), 1, 8, some .nilFunc, false, false, false, []⟩ := by kernel_rfl
theorem ty71 : ctx.ty.get 71 = some ⟨71, (.func #[75] #[] false), 1, 8, some .nilFunc, false, false, false, []⟩ := by kernel_rfl
theorem ty72 : ctx.ty.get 72 = some ⟨72, (.func #[75] #[] false), 1, 8, some .nilFunc, false, false, false, []⟩ := by kernel_rfl
theorem ty73 : ctx.ty.get 73 = some ⟨73, (.func #[24, 9] #[72] false), 1, 8, some .nilFunc, false, false, false, []⟩ := by kernel_rfl
theorem ty74 : ctx.ty.get 74 = some ⟨74, (.int .u64), 1, 8, some (.int .u64 (.ofNat 0)), true, false, false, []⟩ := by kernel_rfl
theorem ty75 : ctx.ty.get 75 = some ⟨75, (.func #[3, 3] #[4] false), 1, 8, some .nilFunc, false, false, false, []⟩ := by kernel_rfl
theorem ty76 : ctx.ty.get 76 = some ⟨76, (.func #[3, 33] #[4] false), 1, 8, some .nilFunc, false, false, false, []⟩ := by kernel_rfl
theorem ty77 : ctx.ty.get 77 = some ⟨77, (.func #[3] #[33] false), 1, 8, some .nilFunc, false, false, false, []⟩ := by kernel_rfl
theorem ty78 : ctx.ty.get 78 = some ⟨78, (.func #[3, 3] #[72] false), 1, 8, some .nilFunc, false, false, false, []⟩ := by kernel_rfl
theorem ty79 : ctx.ty.get 79 = some ⟨79, (.func #[24, 3] #[22] false), 1, 8, some .nilFunc, false, false, false, []⟩ := by kernel_rfl
theorem ty80 : ctx.ty.get 80 = some ⟨80, (.tuple #[3, 4]), 1, 0, none, false, false, false, []⟩ := by kernel_rfl
theorem ty81 : ctx.ty.get 81 = some ⟨81, (.func #[24, 9, 3] #[3, 4] false), 1, 8, some .nilFunc, false, false, false, []⟩ := by kernel_rfl
theorem ty82 : ctx.ty.get 82 = some ⟨82, (.func #[3] #[4] false), 1, 8, some .nilFunc, false, false, false, []⟩ := by kernel_rfl
theorem ty83 : ctx.ty.get 83 = some ⟨83, (.func #[24, 85] #[3, 28] false), 1, 8, some .nilFunc, false, false, false, []⟩ := by kernel_rfl
theorem ty84 : ctx.ty.get 84 = some ⟨84, (.int .u64), 1, 8, some (.int .u64 (.ofNat 0)), true, false, false, []⟩ := by kernel_rfl
theorem ty85 : ctx.ty.get 85 = some ⟨85, (.func #[] #[3] false), 1, 8, some .nilFunc, false, false, false, []⟩ := by kernel_rfl
theorem ty86 : ctx.ty.get 86 = some ⟨86, (.struct #[⟨"least", 3, 0, false, "", "cheesepress/cutter", 0⟩, ⟨"most", 3, 1, false, "", "cheesepress/cutter", 8⟩, ⟨"bits", 3, 2, false, "", "cheesepress/cutter", 16⟩]), 3, 24, some (.agg [(ip 0), (ip 0), (ip 0)]), true, false, false, []⟩ := by kernel_rfl
theorem ty87 : ctx.ty.get 87 = some ⟨87, (.struct #[⟨"least", 3, 0, false, "", "cheesepress/cutter", 0⟩, ⟨"most", 3, 1, false, "", "cheesepress/cutter", 8⟩, ⟨"bits", 3, 2, false, "", "cheesepress/cutter", 16⟩]), 3, 24, some (.agg [(ip 0), (ip 0), (ip 0)]), true, false, false, [⟨"cheesepress/cutter.content", 91, #[], some (68, false)⟩, ⟨"cheesepress/cutter.plain", 91, #[], some (67, false)⟩]⟩ := by kernel_rfl
theorem ty88 : ctx.ty.get 88 = some ⟨88, (.func #[87, 9] #[3] false), 1, 8, some .nilFunc, false, false, false, []⟩ := by kernel_rfl
theorem ty89 : ctx.ty.get 89 = some ⟨89, (.tuple #[87, 88]), 1, 0, none, false, false, false, []⟩ := by kernel_rfl
theorem ty90 : ctx.ty.get 90 = some ⟨90, (.func #[24] #[87, 88] false), 1, 8, some .nilFunc, false, false, false, []⟩ := by kernel_rfl
theorem ty91 : ctx.ty.get 91 = some ⟨91, (.func #[9] #[3] false), 1, 8, some .nilFunc, false, false, false, []⟩ := by kernel_rfl
theorem ty92 : ctx.ty.get 92 = some ⟨92, (.array 2 88), 2, 16, some (.agg [.nilFunc, .nilFunc]), false, false, false, []⟩ := by kernel_rfl
theorem ty93 : ctx.ty.get 93 = some ⟨93, (.func #[3] #[3] false), 1, 8, some .nilFunc, false, false, false, []⟩ := by kernel_rfl
theorem ty94 : ctx.ty.get 94 = some ⟨94, (.tuple #[84, 28]), 1, 0, none, false, false, false, []⟩ := by kernel_rfl
theorem ty95 : ctx.ty.get 95 = some ⟨95, (.func #[9] #[84, 28] false), 1, 8, some .nilFunc, false, false, false, []⟩ := by kernel_rfl
theorem ty96 : ctx.ty.get 96 = some ⟨96, (.func #[84, 5, 5] #[84] false), 1, 8, some .nilFunc, false, false, false, []⟩ := by kernel_rfl
theorem ty97 : ctx.ty.get 97 = some ⟨97, (.tuple #[4, 28]), 1, 0, none, false, false, false, []⟩ := by kernel_rfl
theorem ty98 : ctx.ty.get 98 = some ⟨98, (.func #[84, 3] #[4, 28] false), 1, 8, some .nilFunc, false, false, false, []⟩ := by kernel_rfl
theorem ty99 : ctx.ty.get 99 = some ⟨99, (.func #[101] #[84] false), 1, 8, some .nilFunc, false, false, false, []⟩ := by kernel_rfl
theorem ty100 : ctx.ty.get 100 = some ⟨100, (.array 16 5), 16, 16, some (.agg [(.int .u8 (.ofNat 0)), (.int .u8 (.ofNat 0)), (.int .u8 (.ofNat 0)), (.int .u8 (.ofNat 0)), (.int .u8 (.ofNat 0)), (.int .u8 (.ofNat 0)), (.int .u8 (.ofNat 0)), (.int .u8 (.ofNat 0)), (.int .u8 (.ofNat 0)), (.int .u8 (.ofNat 0)), (.int .u8 (.ofNat 0)), (.int .u8 (.ofNat 0)), (.int .u8 (.ofNat 0)), (.int .u8 (.ofNat 0)), (.int .u8 (.ofNat 0)), (.int .u8 (.ofNat 0))]), true, false, false, []⟩ := by kernel_rfl
theorem ty101 : ctx.ty.get 101 = some ⟨101, (.array 16 5), 16, 16, some (.agg [(.int .u8 (.ofNat 0)), (.int .u8 (.ofNat 0)), (.int .u8 (.ofNat 0)), (.int .u8 (.ofNat 0)), (.int .u8 (.ofNat 0)), (.int .u8 (.ofNat 0)), (.int .u8 (.ofNat 0)), (.int .u8 (.ofNat 0)), (.int .u8 (.ofNat 0)), (.int .u8 (.ofNat 0)), (.int .u8 (.ofNat 0)), (.int .u8 (.ofNat 0)), (.int .u8 (.ofNat 0)), (.int .u8 (.ofNat 0)), (.int .u8 (.ofNat 0)), (.int .u8 (.ofNat 0))]), true, false, false, []⟩ := by kernel_rfl
theorem ty102 : ctx.ty.get 102 = some ⟨102, (.func #[] #[84] false), 1, 8, some .nilFunc, false, false, false, []⟩ := by kernel_rfl
theorem ty103 : ctx.ty.get 103 = some ⟨103, (.func #[84, 3] #[4] false), 1, 8, some .nilFunc, false, false, false, []⟩ := by kernel_rfl
theorem ty104 : ctx.ty.get 104 = some ⟨104, (.func #[] #[9] false), 1, 8, some .nilFunc, false, false, false, []⟩ := by kernel_rfl
theorem ty105 : ctx.ty.get 105 = some ⟨105, (.struct #[⟨"_interface", 17, 0, false, "", "runtime", 0⟩, ⟨"concrete", 17, 1, false, "", "runtime", 8⟩, ⟨"asserted", 17, 2, false, "", "runtime", 16⟩, ⟨"missingMethod", 9, 3, false, "", "runtime", 24⟩]), 4, 40, some (.agg [.nilptr, .nilptr, .nilptr, (sb [])]), true, true, false, []⟩ := by kernel_rfl
theorem ty106 : ctx.ty.get 106 = some ⟨106, (.struct #[⟨"_interface", 17, 0, false, "", "runtime", 0⟩, ⟨"concrete", 17, 1, false, "", "runtime", 8⟩, ⟨"asserted", 17, 2, false, "", "runtime", 16⟩, ⟨"missingMethod", 9, 3, false, "", "runtime", 24⟩]), 4, 40, some (.agg [.nilptr, .nilptr, .nilptr, (sb [])]), true, true, false, []⟩ := by kernel_rfl
theorem ty107 : ctx.ty.get 107 = some ⟨107, (.array 0 16), 0, 0, some (.agg []), true, false, false, []⟩ := by kernel_rfl
theorem ty108 : ctx.ty.get 108 = some ⟨108, (.struct #[⟨"_", 107, 0, false, "", "runtime", 0⟩]), 0, 0, some (.agg []), true, true, false, []⟩ := by kernel_rfl
theorem ty109 : ctx.ty.get 109 = some ⟨109, (.struct #[⟨"_", 107, 0, false, "", "runtime", 0⟩]), 0, 0, some (.agg []), true, true, false, []⟩ := by kernel_rfl
theorem ty110 : ctx.ty.get 110 = some ⟨110, (.int .u32), 1, 4, some (.int .u32 (.ofNat 0)), true, false, false, []⟩ := by kernel_rfl
theorem ty111 : ctx.ty.get 111 = some ⟨111, (.int .u8), 1, 1, some (.int .u8 (.ofNat 0)), true, false, false, []⟩ := by kernel_rfl
theorem ty112 : ctx.ty.get 112 = some ⟨112, (.int .u8), 1, 1, some (.int .u8 (.ofNat 0)), true, false, false, [⟨"String", 104, #[], some (92, false)⟩]⟩ := by kernel_rfl
theorem ty113 : ctx.ty.get 113 = some ⟨113, (.func #[119, 119] #[4] false), 1, 8, some .nilFunc, false, false, false, []⟩ := by kernel_rfl
theorem ty114 : ctx.ty.get 114 = some ⟨114, (.pointer 5), 1, 8, some .nilptr, true, false, false, []⟩ := by kernel_rfl
theorem ty115 : ctx.ty.get 115 = some ⟨115, (.int .i32), 1, 4, some (.int .i32 (.ofNat 0)), true, false, false, []⟩ := by kernel_rfl
theorem ty116 : ctx.ty.get 116 = some ⟨116, (.int .i32), 1, 4, some (.int .i32 (.ofNat 0)), true, false, false, []⟩ := by kernel_rfl
theorem ty117 : ctx.ty.get 117 = some ⟨117, (.struct #[⟨"Size_", 12, 0, false, "", "", 0⟩, ⟨"PtrBytes", 12, 1, false, "", "", 8⟩, ⟨"Hash", 110, 2, false, "", "", 16⟩, ⟨"TFlag", 111, 3, false, "", "", 20⟩, ⟨"Align_", 5, 4, false, "", "", 21⟩, ⟨"FieldAlign_", 5, 5, false, "", "", 22⟩, ⟨"Kind_", 112, 6, false, "", "", 23⟩, ⟨"Equal", 113, 7, false, "", "", 24⟩, ⟨"GCData", 114, 8, false, "", "", 32⟩, ⟨"Str", 115, 9, false, "", "", 40⟩, ⟨"PtrToThis", 116, 10, false, "", "", 44⟩]), 11, 48, some (.agg [(.int .u64 (.ofNat 0)), (.int .u64 (.ofNat 0)), (.int .u32 (.ofNat 0)), (.int .u8 (.ofNat 0)), (.int .u8 (.ofNat 0)), (.int .u8 (.ofNat 0)), (.int .u8 (.ofNat 0)), .nilFunc, .nilptr, (.int .i32 (.ofNat 0)), (.int .i32 (.ofNat 0))]), false, true, false, []⟩ := by kernel_rfl
theorem ty118 : ctx.ty.get 118 = some ⟨118, (.struct #[⟨"Size_", 12, 0, false, "", "", 0⟩, ⟨"PtrBytes", 12, 1, false, "", "", 8⟩, ⟨"Hash", 110, 2, false, "", "", 16⟩, ⟨"TFlag", 111, 3, false, "", "", 20⟩, ⟨"Align_", 5, 4, false, "", "", 21⟩, ⟨"FieldAlign_", 5, 5, false, "", "", 22⟩, ⟨"Kind_", 112, 6, false, "", "", 23⟩, ⟨"Equal", 113, 7, false, "", "", 24⟩, ⟨"GCData", 114, 8, false, "", "", 32⟩, ⟨"Str", 115, 9, false, "", "", 40⟩, ⟨"PtrToThis", 116, 10, false, "", "", 44⟩]), 11, 48, some (.agg [(.int .u64 (.ofNat 0)), (.int .u64 (.ofNat 0)), (.int .u32 (.ofNat 0)), (.int .u8 (.ofNat 0)), (.int .u8 (.ofNat 0)), (.int .u8 (.ofNat 0)), (.int .u8 (.ofNat 0)), .nilFunc, .nilptr, (.int .i32 (.ofNat 0)), (.int .i32 (.ofNat 0))]), false, true, false, []⟩ := by kernel_rfl
theorem ty119 : ctx.ty.get 119 = some ⟨119, .unsafePointer, 1, 8, some .nilptr, true, false, false, []⟩ := by kernel_rfl

/- cheesepress/cheesepresslaw36.JobsAgain -/
def l3_0 : Code :=
 (.seq
  (.seq
   (.region 5 ⟨[O1 (some 14) 3 (.move (t 8)),
     O1 (some 15) 22 (.move (t 0)),
     O1 (some 16) 3 (.call ⟨(.builtin .len), #[(t 15)], #[22]⟩),
     O1 (some 17) 4 (.binOp .lss 3 (t 14) (t 16) 3),
     O1 (some 18) 4 (.move (t 17)),
     O2 (some 19) 3 (.move (t 8)) (4, true),
     O2 (some 20) 4 (.binOp .lss 3 (t 19) (ci 30) 3) (4, true),
     O1 (some 21) 4 (.pick (t 18) (t 20) (.const (.bool false)))]⟩ false)
   (.cond (t 21)
    .skip
    (.exit 0)))
  (.seq
   (.block 1
    (.seq
     (.region 7 ⟨[O1 (some 24) 3 (.move (t 7)),
       O1 (some 25) 22 (.move (t 0)),
       O1 (some 26) 3 (.move (t 8)),
       O1 (some 27) 0 (.indexAddr 22 (t 25) (t 26)),
       O1 (some 28) 3 (.load 3 (t 27)),
       O1 (some 29) 3 (.call ⟨(.value (.func 7)), #[(t 28), (ci 3000)], #[3, 3]⟩),
       O1 (some 30) 3 (.binOp .add 3 (t 24) (t 29) 3),
       O1 (some 7) 3 (.assign (t 30))]⟩ false)
     (.region 8 ⟨[O1 (some 31) 22 (.move (t 6)),
       O1 (some 32) 3 (.move (t 7)),
       O1 (some 33) 22 (.buildSlice 22 1 #[(0, (t 32))]),
       O1 (some 34) 22 (.call ⟨(.builtin .append), #[(t 31), (t 33)], #[22, 22]⟩),
       O1 (some 6) 22 (.assign (t 34))]⟩ false)))
   (.region 6 ⟨[O1 (some 22) 3 (.move (t 8)),
     O1 (some 23) 3 (.binOp .add 3 (t 22) (ci 1) 3),
     O1 (some 8) 3 (.assign (t 23))]⟩ false)))
def l3_1 : Code :=
 (.seq
  (.seq
   (.region 15 ⟨[O1 (some 62) 3 (.move (t 11)),
     O1 (some 63) 27 (.move (t 9)),
     O1 (some 64) 3 (.call ⟨(.builtin .len), #[(t 63)], #[27]⟩),
     O1 (some 65) 4 (.binOp .lss 3 (t 62) (t 64) 3)]⟩ false)
   (.cond (t 65)
    .skip
    (.exit 2)))
  (.seq
   (.block 3
    (.seq
     (.region 17 #[⟨(some 68), .move (t 9), 27, "law.go:133", #[], none⟩,
       ⟨(some 69), .move (t 11), 3, "law.go:133", #[], none⟩,
       ⟨(some 70), .indexAddr 27 (t 68) (t 69), 0, "law.go:133", #[⟨0, .data⟩, ⟨1, .data⟩], none⟩,
       ⟨(some 71), .fieldAddr 33 (t 70) 1, 0, "law.go:133", #[⟨2, .data⟩], none⟩,
       ⟨(some 72), .load 3 (t 71), 3, "law.go:133", #[⟨3, .data⟩], none⟩,
       ⟨(some 73), .move (t 6), 22, "law.go:133", #[], none⟩,
       ⟨(some 74), .move (t 11), 3, "law.go:133", #[], none⟩,
       ⟨(some 75), .indexAddr 22 (t 73) (t 74), 0, "law.go:133", #[⟨5, .data⟩, ⟨6, .data⟩], none⟩,
       ⟨(some 76), .load 3 (t 75), 3, "law.go:133", #[⟨7, .data⟩], none⟩,
       ⟨(some 77), .binOp .neq 3 (t 72) (t 76) 3, 4, "law.go:133", #[⟨4, .data⟩, ⟨8, .data⟩], none⟩,
       ⟨(some 78), .move (t 77), 4, "law.go:133", #[⟨9, .data⟩], none⟩,
       ⟨(some 79), .move (t 11), 3, "law.go:133", #[⟨10, .guard⟩], (some (10, false))⟩,
       ⟨(some 80), .binOp .gtr 3 (t 79) (ci 0) 3, 4, "law.go:133", #[⟨11, .data⟩, ⟨10, .guard⟩], (some (10, false))⟩,
       ⟨(some 81), .move (t 80), 4, "law.go:133", #[⟨12, .data⟩, ⟨10, .chain⟩, ⟨10, .guard⟩], (some (10, false))⟩,
       ⟨(some 82), .move (t 9), 27, "law.go:133", #[⟨13, .guard⟩], (some (13, true))⟩,
       ⟨(some 83), .move (t 11), 3, "law.go:133", #[⟨13, .guard⟩], (some (13, true))⟩,
       ⟨(some 84), .indexAddr 27 (t 82) (t 83), 0, "law.go:133", #[⟨14, .data⟩, ⟨15, .data⟩, ⟨13, .guard⟩], (some (13, true))⟩,
       ⟨(some 85), .fieldAddr 33 (t 84) 0, 0, "law.go:133", #[⟨16, .data⟩, ⟨13, .guard⟩], (some (13, true))⟩,
       ⟨(some 86), .load 3 (t 85), 3, "law.go:133", #[⟨17, .data⟩, ⟨13, .guard⟩], (some (13, true))⟩,
       ⟨(some 87), .move (t 6), 22, "law.go:133", #[⟨13, .guard⟩], (some (13, true))⟩,
       ⟨(some 88), .move (t 11), 3, "law.go:133", #[⟨13, .guard⟩], (some (13, true))⟩,
       ⟨(some 89), .binOp .sub 3 (t 88) (ci 1) 3, 3, "law.go:133", #[⟨20, .data⟩, ⟨13, .guard⟩], (some (13, true))⟩,
       ⟨(some 90), .indexAddr 22 (t 87) (t 89), 0, "law.go:133", #[⟨19, .data⟩, ⟨21, .data⟩, ⟨13, .guard⟩], (some (13, true))⟩,
       ⟨(some 91), .load 3 (t 90), 3, "law.go:133", #[⟨22, .data⟩, ⟨13, .guard⟩], (some (13, true))⟩,
       ⟨(some 92), .binOp .neq 3 (t 86) (t 91) 3, 4, "law.go:133", #[⟨18, .data⟩, ⟨23, .data⟩, ⟨13, .guard⟩], (some (13, true))⟩,
       ⟨(some 93), .pick (t 81) (t 92) (.const (.bool false)), 4, "law.go:133", #[⟨13, .data⟩, ⟨24, .data⟩, ⟨10, .guard⟩], (some (10, false))⟩,
       ⟨(some 94), .pick (t 78) (.const (.bool true)) (t 93), 4, "law.go:133", #[⟨10, .data⟩, ⟨25, .data⟩], none⟩,
       ⟨(some 95), .move (t 94), 4, "law.go:133", #[⟨26, .data⟩, ⟨13, .chain⟩], none⟩,
       ⟨(some 96), .move (t 11), 3, "law.go:133", #[⟨27, .guard⟩], (some (27, false))⟩,
       ⟨(some 97), .binOp .eql 3 (t 96) (ci 0) 3, 4, "law.go:133", #[⟨28, .data⟩, ⟨27, .guard⟩], (some (27, false))⟩,
       ⟨(some 98), .move (t 97), 4, "law.go:133", #[⟨29, .data⟩, ⟨27, .chain⟩, ⟨27, .guard⟩], (some (27, false))⟩,
       ⟨(some 99), .move (t 9), 27, "law.go:133", #[⟨30, .guard⟩], (some (30, true))⟩,
       ⟨(some 100), .move (t 11), 3, "law.go:133", #[⟨30, .guard⟩], (some (30, true))⟩,
       ⟨(some 101), .indexAddr 27 (t 99) (t 100), 0, "law.go:133", #[⟨31, .data⟩, ⟨32, .data⟩, ⟨30, .guard⟩], (some (30, true))⟩,
       ⟨(some 102), .fieldAddr 33 (t 101) 0, 0, "law.go:133", #[⟨33, .data⟩, ⟨30, .guard⟩], (some (30, true))⟩,
       ⟨(some 103), .load 3 (t 102), 3, "law.go:133", #[⟨34, .data⟩, ⟨30, .guard⟩], (some (30, true))⟩,
       ⟨(some 104), .binOp .neq 3 (t 103) (ci 0) 3, 4, "law.go:133", #[⟨35, .data⟩, ⟨30, .guard⟩], (some (30, true))⟩,
       ⟨(some 105), .pick (t 98) (t 104) (.const (.bool false)), 4, "law.go:133", #[⟨30, .data⟩, ⟨36, .data⟩, ⟨27, .guard⟩], (some (27, false))⟩,
       ⟨(some 106), .pick (t 95) (.const (.bool true)) (t 105), 4, "law.go:133", #[⟨27, .data⟩, ⟨37, .data⟩], none⟩] true)
     (.cond (t 106)
      (.seq
       (.region 18 ⟨[O1 (some 4) 4 (.assign (.const (.bool false)))]⟩ false)
       .ret)
      .skip)))
   (.region 16 ⟨[O1 (some 66) 3 (.move (t 11)),
     O1 (some 67) 3 (.binOp .add 3 (t 66) (ci 1) 3),
     O1 (some 11) 3 (.assign (t 67))]⟩ false)))
def r3_2 : Code :=
 (.seq
  (.region 19 ⟨[O1 (some 107) 4 (.call ⟨(.value (.func 10)), #[], #[]⟩),
    O1 (some 4) 4 (.assign (t 107))]⟩ false)
  .ret)
def r3_3 : Code :=
 (.seq
  (.seq
   (.region 9 ⟨[O1 (some 35) 22 (.move (t 6)),
     O1 (some 36) 3 (.call ⟨(.builtin .len), #[(t 35)], #[22]⟩),
     O1 (some 37) 4 (.binOp .eql 3 (t 36) (ci 0) 3)]⟩ false)
   (.cond (t 37)
    (.region 10 ⟨[O1 (some 38) 22 (.move (t 6)),
      O1 (some 39) 22 (.buildSlice 22 1 #[(0, (ci 0))]),
      O1 (some 40) 22 (.call ⟨(.builtin .append), #[(t 38), (t 39)], #[22, 22]⟩),
      O1 (some 6) 22 (.assign (t 40))]⟩ false)
    .skip))
  (.seq
   (.region 11 ⟨[O1 (some 42) 24 (.load 24 (t 5)),
     O1 (some 43) 22 (.move (t 6)),
     O1 (some 44) 29 (.call ⟨(.value (.func 8)), #[(t 42), (t 43)], #[24, 22]⟩),
     O1 (some 41) 29 (.move (t 44)),
     O1 (some 45) 27 (.extract (t 41) 0),
     O1 (some 46) 28 (.extract (t 41) 1),
     O1 (some 9) 27 (.assign (t 45)),
     O1 (some 10) 28 (.assign (t 46))]⟩ false)
   (.seq
    (.seq
     (.region 12 ⟨[O1 (some 47) 28 (.move (t 10)),
       O1 (some 48) 4 (.binOp .neq 28 (t 47) (ci 0) 28),
       O1 (some 49) 4 (.move (t 48)),
       O2 (some 50) 27 (.move (t 9)) (2, false),
       O2 (some 51) 3 (.call ⟨(.builtin .len), #[(t 50)], #[27]⟩) (2, false),
       O2 (some 52) 22 (.move (t 6)) (2, false),
       O2 (some 53) 3 (.call ⟨(.builtin .len), #[(t 52)], #[22]⟩) (2, false),
       O2 (some 54) 4 (.binOp .neq 3 (t 51) (t 53) 3) (2, false),
       O1 (some 55) 4 (.pick (t 49) (.const (.bool true)) (t 54)),
       O1 (some 56) 4 (.move (t 55)),
       O2 (some 57) 24 (.load 24 (t 5)) (9, false),
       O2 (some 58) 27 (.move (t 9)) (9, false),
       O2 (some 59) 28 (.call ⟨(.value (.func 9)), #[(t 57), (t 58)], #[24, 27]⟩) (9, false),
       O2 (some 60) 4 (.binOp .neq 28 (t 59) (ci 0) 28) (9, false),
       O1 (some 61) 4 (.pick (t 56) (.const (.bool true)) (t 60))]⟩ false)
     (.cond (t 61)
      (.seq
       (.region 13 ⟨[O1 (some 4) 4 (.assign (.const (.bool false)))]⟩ false)
       .ret)
      .skip))
    (.seq
     (.seq
      (.region 14 ⟨[O1 (some 11) 3 (.assign (ci 0))]⟩ false)
      (.block 2
       (.loop l3_1)))
     r3_2))))
def b3 : Code :=
 (.seq
  (.region 0 ⟨[O1 (some 4) 4 (.assign (.const (.bool false)))]⟩ false)
  (.seq
   (.region 1 ⟨[O1 (some 12) 3 (.move (t 1)),
     O1 (some 13) 24 (.call ⟨(.value (.func 6)), #[(t 12)], #[3]⟩),
     O1 (some 5) 0 (.alloc 24),
     O1 none 0 (.store 24 (t 5) (t 13))]⟩ false)
   (.seq
    (.region 2 ⟨[O1 (some 6) 22 (.assign (.const (.slice none 0 0)))]⟩ false)
    (.seq
     (.region 3 ⟨[O1 (some 7) 3 (.assign (ci 0))]⟩ false)
     (.seq
      (.seq
       (.region 4 ⟨[O1 (some 8) 3 (.assign (ci 0))]⟩ false)
       (.block 0
        (.loop l3_0)))
      r3_3)))))
theorem fn3 : (ctx.fn.get 3).map slimF = some ⟨108, [.tmp 4], b3⟩ := by kernel_rfl
theorem vl3_0 (tm : Tm) (y8 : Int) (y0 : V) (y7 : Int) (y6 : V) (d : List AD) (h : H) (Q : AX → St → Prop) : wpC Try.prog ctx false l3_0 ⟨108, (Tb.set (Tb.set (Tb.set (Tb.set tm 8 (.int .i64 y8)) 0 y0) 7 (.int .i64 y7)) 6 y6), d, h⟩ (sealQ [4, 8, 0, 7, 6, 11, 9, 5] Q) = (∃ (x0 : Int), alen ctx 22 h y0 = some (.int .i64 x0) ∧ ((y8 < x0 → ((y8 < (30 : Int) → ∃ p1 o2, aidx ctx 22 y0 (.int .i64 y8) = some (.ptr p1 o2) ∧ ∃ (x3 : Int), ald ctx 3 h (.ptr p1 o2) = some (.int .i64 x3) ∧ RF Try.prog ctx 7 [(.int .i64 x3), (.int .i64 (3000 : Int))] h (fun v4 h5 => ∃ (x6 : Int), v4 = (.int .i64 x6) ∧ ∃ v7 h8, abuildSlice ctx 22 1 [(0, (.int .i64 (w64 (y7 + x6))))] h5 = some (v7, h8) ∧ (True ∧ ∃ v9 h10, aappend ctx 22 h8 y6 v7 = some (v9, h10) ∧ (∀ tm', getV tm' 4 = getV tm 4 → getV tm' 8 = (.int .i64 (w64 (y8 + (1 : Int)))) → getV tm' 0 = y0 → getV tm' 7 = (.int .i64 (w64 (y7 + x6))) → getV tm' 6 = v9 → getV tm' 11 = getV tm 11 → getV tm' 9 = getV tm 9 → getV tm' 5 = getV tm 5 → Q .normal ⟨108, tm', d, h10⟩)))) ∧ (¬(y8 < (30 : Int)) → (∀ tm', getV tm' 4 = getV tm 4 → getV tm' 8 = (.int .i64 y8) → getV tm' 0 = y0 → getV tm' 7 = (.int .i64 y7) → getV tm' 6 = y6 → getV tm' 11 = getV tm 11 → getV tm' 9 = getV tm 9 → getV tm' 5 = getV tm 5 → Q (.exit 0) ⟨108, tm', d, h⟩)))) ∧ (¬(y8 < x0) → (∀ tm', getV tm' 4 = getV tm 4 → getV tm' 8 = (.int .i64 y8) → getV tm' 0 = y0 → getV tm' 7 = (.int .i64 y7) → getV tm' 6 = y6 → getV tm' 11 = getV tm 11 → getV tm' 9 = getV tm 9 → getV tm' 5 = getV tm 5 → Q (.exit 0) ⟨108, tm', d, h⟩)))) := by kernel_rfl
theorem vl3_1 (tm : Tm) (y11 : Int) (y9 : V) (y6 : V) (d : List AD) (h : H) (Q : AX → St → Prop) : wpC Try.prog ctx false l3_1 ⟨108, (Tb.set (Tb.set (Tb.set tm 11 (.int .i64 y11)) 9 y9) 6 y6), d, h⟩ (sealQ [4, 8, 0, 7, 6, 11, 9, 5] Q) = (∃ (x0 : Int), alen ctx 27 h y9 = some (.int .i64 x0) ∧ ((y11 < x0 → ((h.next ≤ T.top ∧ h.low ≤ T.top) ∧ ∃ p1 o2, aidx ctx 27 y9 (.int .i64 y11) = some (.ptr p1 o2) ∧ ∃ (x3 : Int), ald ctx 3 h (.ptr p1 (o2 + 1)) = some (.int .i64 x3) ∧ ∃ p4 o5, aidx ctx 22 y6 (.int .i64 y11) = some (.ptr p4 o5) ∧ ∃ (x6 : Int), ald ctx 3 h (.ptr p4 o5) = some (.int .i64 x6) ∧ ((x3 ≠ x6 → (∀ tm', getV tm' 4 = (.bool false) → getV tm' 8 = getV tm 8 → getV tm' 0 = getV tm 0 → getV tm' 7 = getV tm 7 → getV tm' 6 = y6 → getV tm' 11 = (.int .i64 y11) → getV tm' 9 = y9 → getV tm' 5 = getV tm 5 → Q .ret ⟨108, tm', d, h⟩)) ∧ (¬(x3 ≠ x6) → (((0 : Int) < y11 → ∃ p7 o8, aidx ctx 27 y9 (.int .i64 y11) = some (.ptr p7 o8) ∧ ∃ (x9 : Int), ald ctx 3 h (.ptr p7 (o8 + 0)) = some (.int .i64 x9) ∧ ∃ p10 o11, aidx ctx 22 y6 (.int .i64 (w64 (y11 - (1 : Int)))) = some (.ptr p10 o11) ∧ ∃ (x12 : Int), ald ctx 3 h (.ptr p10 o11) = some (.int .i64 x12) ∧ ((x9 ≠ x12 → (∀ tm', getV tm' 4 = (.bool false) → getV tm' 8 = getV tm 8 → getV tm' 0 = getV tm 0 → getV tm' 7 = getV tm 7 → getV tm' 6 = y6 → getV tm' 11 = (.int .i64 y11) → getV tm' 9 = y9 → getV tm' 5 = getV tm 5 → Q .ret ⟨108, tm', d, h⟩)) ∧ (¬(x9 ≠ x12) → ((y11 = (0 : Int) → ∃ p13 o14, aidx ctx 27 y9 (.int .i64 y11) = some (.ptr p13 o14) ∧ ∃ (x15 : Int), ald ctx 3 h (.ptr p13 (o14 + 0)) = some (.int .i64 x15) ∧ ((x15 ≠ (0 : Int) → (∀ tm', getV tm' 4 = (.bool false) → getV tm' 8 = getV tm 8 → getV tm' 0 = getV tm 0 → getV tm' 7 = getV tm 7 → getV tm' 6 = y6 → getV tm' 11 = (.int .i64 y11) → getV tm' 9 = y9 → getV tm' 5 = getV tm 5 → Q .ret ⟨108, tm', d, h⟩)) ∧ (¬(x15 ≠ (0 : Int)) → (∀ tm', getV tm' 4 = getV tm 4 → getV tm' 8 = getV tm 8 → getV tm' 0 = getV tm 0 → getV tm' 7 = getV tm 7 → getV tm' 6 = y6 → getV tm' 11 = (.int .i64 (w64 (y11 + (1 : Int)))) → getV tm' 9 = y9 → getV tm' 5 = getV tm 5 → Q .normal ⟨108, tm', d, h⟩)))) ∧ (¬(y11 = (0 : Int)) → (∀ tm', getV tm' 4 = getV tm 4 → getV tm' 8 = getV tm 8 → getV tm' 0 = getV tm 0 → getV tm' 7 = getV tm 7 → getV tm' 6 = y6 → getV tm' 11 = (.int .i64 (w64 (y11 + (1 : Int)))) → getV tm' 9 = y9 → getV tm' 5 = getV tm 5 → Q .normal ⟨108, tm', d, h⟩)))))) ∧ (¬((0 : Int) < y11) → ((y11 = (0 : Int) → ∃ p16 o17, aidx ctx 27 y9 (.int .i64 y11) = some (.ptr p16 o17) ∧ ∃ (x18 : Int), ald ctx 3 h (.ptr p16 (o17 + 0)) = some (.int .i64 x18) ∧ ((x18 ≠ (0 : Int) → (∀ tm', getV tm' 4 = (.bool false) → getV tm' 8 = getV tm 8 → getV tm' 0 = getV tm 0 → getV tm' 7 = getV tm 7 → getV tm' 6 = y6 → getV tm' 11 = (.int .i64 y11) → getV tm' 9 = y9 → getV tm' 5 = getV tm 5 → Q .ret ⟨108, tm', d, h⟩)) ∧ (¬(x18 ≠ (0 : Int)) → (∀ tm', getV tm' 4 = getV tm 4 → getV tm' 8 = getV tm 8 → getV tm' 0 = getV tm 0 → getV tm' 7 = getV tm 7 → getV tm' 6 = y6 → getV tm' 11 = (.int .i64 (w64 (y11 + (1 : Int)))) → getV tm' 9 = y9 → getV tm' 5 = getV tm 5 → Q .normal ⟨108, tm', d, h⟩)))) ∧ (¬(y11 = (0 : Int)) → (∀ tm', getV tm' 4 = getV tm 4 → getV tm' 8 = getV tm 8 → getV tm' 0 = getV tm 0 → getV tm' 7 = getV tm 7 → getV tm' 6 = y6 → getV tm' 11 = (.int .i64 (w64 (y11 + (1 : Int)))) → getV tm' 9 = y9 → getV tm' 5 = getV tm 5 → Q .normal ⟨108, tm', d, h⟩))))))))) ∧ (¬(y11 < x0) → (∀ tm', getV tm' 4 = getV tm 4 → getV tm' 8 = getV tm 8 → getV tm' 0 = getV tm 0 → getV tm' 7 = getV tm 7 → getV tm' 6 = y6 → getV tm' 11 = (.int .i64 y11) → getV tm' 9 = y9 → getV tm' 5 = getV tm 5 → Q (.exit 2) ⟨108, tm', d, h⟩)))) := by kernel_rfl
theorem vr3_2 (tm : Tm)  (d : List AD) (h : H) (Q : AX → St → Prop) : wpC Try.prog ctx false r3_2 ⟨108, tm, d, h⟩ (sealQ [4, 8, 0, 7, 6, 11, 9, 5] Q) = (RF Try.prog ctx 10 [] h (fun v0 h1 => ∃ (b2 : Bool), v0 = (.bool b2) ∧ ((b2 = true → (∀ tm', getV tm' 4 = (.bool true) → getV tm' 8 = getV tm 8 → getV tm' 0 = getV tm 0 → getV tm' 7 = getV tm 7 → getV tm' 6 = getV tm 6 → getV tm' 11 = getV tm 11 → getV tm' 9 = getV tm 9 → getV tm' 5 = getV tm 5 → Q .ret ⟨108, tm', d, h1⟩)) ∧ (b2 = false → (∀ tm', getV tm' 4 = (.bool false) → getV tm' 8 = getV tm 8 → getV tm' 0 = getV tm 0 → getV tm' 7 = getV tm 7 → getV tm' 6 = getV tm 6 → getV tm' 11 = getV tm 11 → getV tm' 9 = getV tm 9 → getV tm' 5 = getV tm 5 → Q .ret ⟨108, tm', d, h1⟩))))) := by kernel_rfl
theorem vr3_3 (tm : Tm) (y6 : V) (y5 : V) (d : List AD) (h : H) (Q : AX → St → Prop) : wpC Try.prog ctx false r3_3 ⟨108, (Tb.set (Tb.set tm 6 y6) 5 y5), d, h⟩ (sealQ [4, 8, 0, 7, 6, 11, 9, 5] Q) = (∃ (x0 : Int), alen ctx 22 h y6 = some (.int .i64 x0) ∧ ((x0 = (0 : Int) → ∃ v1 h2, abuildSlice ctx 22 1 [(0, (.int .i64 (0 : Int)))] h = some (v1, h2) ∧ (True ∧ ∃ v3 h4, aappend ctx 22 h2 y6 v1 = some (v3, h4) ∧ ∃ (x5 : Int) (x6 : Int) (x7 : Int) (x8 : Int) (b9 : Bool) (b10 : Bool), ald ctx 24 h4 y5 = some (.agg [(.int .i64 x5), (.int .i64 x6), (.int .i64 x7), (.int .i64 x8), (.bool b9), (.bool b10)]) ∧ RF Try.prog ctx 8 [(.agg [(.int .i64 x5), (.int .i64 x6), (.int .i64 x7), (.int .i64 x8), (.bool b9), (.bool b10)]), v3] h4 (fun v11 h12 => ∃ (v13 : V) (x14 : Int), v11 = (.tuple [v13, (.int .i64 x14)]) ∧ ((x14 ≠ (0 : Int) → (∀ tm', getV tm' 4 = (.bool false) → getV tm' 8 = getV tm 8 → getV tm' 0 = getV tm 0 → getV tm' 7 = getV tm 7 → getV tm' 6 = v3 → getV tm' 11 = getV tm 11 → getV tm' 9 = v13 → getV tm' 5 = y5 → Q .ret ⟨108, tm', d, h12⟩)) ∧ (¬(x14 ≠ (0 : Int)) → ∃ (x15 : Int), alen ctx 27 h12 v13 = some (.int .i64 x15) ∧ ∃ (x16 : Int), alen ctx 22 h12 v3 = some (.int .i64 x16) ∧ ((x15 ≠ x16 → (∀ tm', getV tm' 4 = (.bool false) → getV tm' 8 = getV tm 8 → getV tm' 0 = getV tm 0 → getV tm' 7 = getV tm 7 → getV tm' 6 = v3 → getV tm' 11 = getV tm 11 → getV tm' 9 = v13 → getV tm' 5 = y5 → Q .ret ⟨108, tm', d, h12⟩)) ∧ (¬(x15 ≠ x16) → ∃ (x17 : Int) (x18 : Int) (x19 : Int) (x20 : Int) (b21 : Bool) (b22 : Bool), ald ctx 24 h12 y5 = some (.agg [(.int .i64 x17), (.int .i64 x18), (.int .i64 x19), (.int .i64 x20), (.bool b21), (.bool b22)]) ∧ RF Try.prog ctx 9 [(.agg [(.int .i64 x17), (.int .i64 x18), (.int .i64 x19), (.int .i64 x20), (.bool b21), (.bool b22)]), v13] h12 (fun v23 h24 => ∃ (x25 : Int), v23 = (.int .i64 x25) ∧ ((x25 ≠ (0 : Int) → (∀ tm', getV tm' 4 = (.bool false) → getV tm' 8 = getV tm 8 → getV tm' 0 = getV tm 0 → getV tm' 7 = getV tm 7 → getV tm' 6 = v3 → getV tm' 11 = getV tm 11 → getV tm' 9 = v13 → getV tm' 5 = y5 → Q .ret ⟨108, tm', d, h24⟩)) ∧ (¬(x25 ≠ (0 : Int)) → wpC Try.prog ctx false (.loop l3_1) ⟨108, (Tb.set (Tb.set (Tb.set (Tb.set (Tb.set (Tb.set (Tb.set (Tb.set (Tb.set (Tb.set (Tb.set (Tb.set (Tb.set (Tb.set (Tb.set (Tb.set (Tb.set (Tb.set (Tb.set (Tb.set (Tb.set (Tb.set (Tb.set (Tb.set (Tb.set (Tb.set (Tb.set (Tb.set (Tb.set (Tb.set (Tb.set (Tb.set (Tb.set tm 6 y6) 5 y5) 35 y6) 36 (.int .i64 x0)) 37 (.bool true)) 38 y6) 39 v1) 40 v3) 6 v3) 42 (.agg [(.int .i64 x5), (.int .i64 x6), (.int .i64 x7), (.int .i64 x8), (.bool b9), (.bool b10)])) 43 v3) 44 (.tuple [v13, (.int .i64 x14)])) 41 (.tuple [v13, (.int .i64 x14)])) 45 v13) 46 (.int .i64 x14)) 9 v13) 10 (.int .i64 x14)) 47 (.int .i64 x14)) 48 (.bool false)) 49 (.bool false)) 50 v13) 51 (.int .i64 x15)) 52 v3) 53 (.int .i64 x16)) 54 (.bool false)) 55 (.bool false)) 56 (.bool false)) 57 (.agg [(.int .i64 x17), (.int .i64 x18), (.int .i64 x19), (.int .i64 x20), (.bool b21), (.bool b22)])) 58 v13) 59 (.int .i64 x25)) 60 (.bool false)) 61 (.bool false)) 11 (.int .i64 (0 : Int))), d, h24⟩ (fun e s1 => (thenC (fun s1 => wpC Try.prog ctx false r3_2 s1 (sealQ [4, 8, 0, 7, 6, 11, 9, 5] Q)) (sealQ [4, 8, 0, 7, 6, 11, 9, 5] Q)) (exitB 2 e) s1))))))))))) ∧ (¬(x0 = (0 : Int)) → ∃ (x26 : Int) (x27 : Int) (x28 : Int) (x29 : Int) (b30 : Bool) (b31 : Bool), ald ctx 24 h y5 = some (.agg [(.int .i64 x26), (.int .i64 x27), (.int .i64 x28), (.int .i64 x29), (.bool b30), (.bool b31)]) ∧ RF Try.prog ctx 8 [(.agg [(.int .i64 x26), (.int .i64 x27), (.int .i64 x28), (.int .i64 x29), (.bool b30), (.bool b31)]), y6] h (fun v32 h33 => ∃ (v34 : V) (x35 : Int), v32 = (.tuple [v34, (.int .i64 x35)]) ∧ ((x35 ≠ (0 : Int) → (∀ tm', getV tm' 4 = (.bool false) → getV tm' 8 = getV tm 8 → getV tm' 0 = getV tm 0 → getV tm' 7 = getV tm 7 → getV tm' 6 = y6 → getV tm' 11 = getV tm 11 → getV tm' 9 = v34 → getV tm' 5 = y5 → Q .ret ⟨108, tm', d, h33⟩)) ∧ (¬(x35 ≠ (0 : Int)) → ∃ (x36 : Int), alen ctx 27 h33 v34 = some (.int .i64 x36) ∧ ∃ (x37 : Int), alen ctx 22 h33 y6 = some (.int .i64 x37) ∧ ((x36 ≠ x37 → (∀ tm', getV tm' 4 = (.bool false) → getV tm' 8 = getV tm 8 → getV tm' 0 = getV tm 0 → getV tm' 7 = getV tm 7 → getV tm' 6 = y6 → getV tm' 11 = getV tm 11 → getV tm' 9 = v34 → getV tm' 5 = y5 → Q .ret ⟨108, tm', d, h33⟩)) ∧ (¬(x36 ≠ x37) → ∃ (x38 : Int) (x39 : Int) (x40 : Int) (x41 : Int) (b42 : Bool) (b43 : Bool), ald ctx 24 h33 y5 = some (.agg [(.int .i64 x38), (.int .i64 x39), (.int .i64 x40), (.int .i64 x41), (.bool b42), (.bool b43)]) ∧ RF Try.prog ctx 9 [(.agg [(.int .i64 x38), (.int .i64 x39), (.int .i64 x40), (.int .i64 x41), (.bool b42), (.bool b43)]), v34] h33 (fun v44 h45 => ∃ (x46 : Int), v44 = (.int .i64 x46) ∧ ((x46 ≠ (0 : Int) → (∀ tm', getV tm' 4 = (.bool false) → getV tm' 8 = getV tm 8 → getV tm' 0 = getV tm 0 → getV tm' 7 = getV tm 7 → getV tm' 6 = y6 → getV tm' 11 = getV tm 11 → getV tm' 9 = v34 → getV tm' 5 = y5 → Q .ret ⟨108, tm', d, h45⟩)) ∧ (¬(x46 ≠ (0 : Int)) → wpC Try.prog ctx false (.loop l3_1) ⟨108, (Tb.set (Tb.set (Tb.set (Tb.set (Tb.set (Tb.set (Tb.set (Tb.set (Tb.set (Tb.set (Tb.set (Tb.set (Tb.set (Tb.set (Tb.set (Tb.set (Tb.set (Tb.set (Tb.set (Tb.set (Tb.set (Tb.set (Tb.set (Tb.set (Tb.set (Tb.set (Tb.set (Tb.set (Tb.set tm 6 y6) 5 y5) 35 y6) 36 (.int .i64 x0)) 37 (.bool false)) 42 (.agg [(.int .i64 x26), (.int .i64 x27), (.int .i64 x28), (.int .i64 x29), (.bool b30), (.bool b31)])) 43 y6) 44 (.tuple [v34, (.int .i64 x35)])) 41 (.tuple [v34, (.int .i64 x35)])) 45 v34) 46 (.int .i64 x35)) 9 v34) 10 (.int .i64 x35)) 47 (.int .i64 x35)) 48 (.bool false)) 49 (.bool false)) 50 v34) 51 (.int .i64 x36)) 52 y6) 53 (.int .i64 x37)) 54 (.bool false)) 55 (.bool false)) 56 (.bool false)) 57 (.agg [(.int .i64 x38), (.int .i64 x39), (.int .i64 x40), (.int .i64 x41), (.bool b42), (.bool b43)])) 58 v34) 59 (.int .i64 x46)) 60 (.bool false)) 61 (.bool false)) 11 (.int .i64 (0 : Int))), d, h45⟩ (fun e s1 => (thenC (fun s1 => wpC Try.prog ctx false r3_2 s1 (sealQ [4, 8, 0, 7, 6, 11, 9, 5] Q)) (sealQ [4, 8, 0, 7, 6, 11, 9, 5] Q)) (exitB 2 e) s1)))))))))))) := by kernel_rfl
theorem vb3 (a0 : V) (a1 : Int) (h : H) (Q : V → H → Prop) : wpC Try.prog ctx false b3 ⟨108, setArgs [a0, (.int .i64 a1)] 0 (Tb.leaf undefV), [], h⟩ (endW ctx ⟨108, [.tmp 4], b3⟩ Q) = (RF Try.prog ctx 6 [(.int .i64 a1)] h (fun v0 h1 => ∃ (x2 : Int) (x3 : Int) (x4 : Int) (x5 : Int) (b6 : Bool) (b7 : Bool), v0 = (.agg [(.int .i64 x2), (.int .i64 x3), (.int .i64 x4), (.int .i64 x5), (.bool b6), (.bool b7)]) ∧ (h1.next < T.top ∧ ∀ p8 h9, p8 = h1.next → h9 = h1.new (.cells (.ls [(.int .i64 (0 : Int)), (.int .i64 (0 : Int)), (.int .i64 (0 : Int)), (.int .i64 (0 : Int)), (.bool false), (.bool false)]) ⟨0, 25, 0⟩ true false) → ∃ h10, ast ctx 24 h9 (.ptr p8 0) (.agg [(.int .i64 x2), (.int .i64 x3), (.int .i64 x4), (.int .i64 x5), (.bool b6), (.bool b7)]) = some h10 ∧ wpC Try.prog ctx false (.loop l3_0) ⟨108, (Tb.set (Tb.set (Tb.set (Tb.set (Tb.set (Tb.set (Tb.set (Tb.set (Tb.set (Tb.leaf undefV) 0 a0) 1 (.int .i64 a1)) 4 (.bool false)) 12 (.int .i64 a1)) 13 (.agg [(.int .i64 x2), (.int .i64 x3), (.int .i64 x4), (.int .i64 x5), (.bool b6), (.bool b7)])) 5 (.ptr p8 0)) 6 .nilslice) 7 (.int .i64 (0 : Int))) 8 (.int .i64 (0 : Int))), [], h10⟩ (fun e s1 => (thenC (fun s1 => wpC Try.prog ctx false r3_3 s1 (endW ctx ⟨108, [.tmp 4], b3⟩ Q)) (endW ctx ⟨108, [.tmp 4], b3⟩ Q)) (exitB 0 e) s1)))) := by kernel_rfl

/- cheesepress/cheesepresslaw36.JobsEnds -/
def b4 : Code :=
 (.seq
  (.region 0 ⟨[O1 (some 5) 0 (.box 24 (t 0)),
    O1 (some 9) 0 (.box 33 (t 4)),
    O1 (some 10) 4 (.assign (.const (.bool false)))]⟩ false)
  (.seq
   (.seq
    (.region 1 ⟨[O1 (some 24) 22 (.move (t 1)),
      O1 (some 25) 3 (.call ⟨(.builtin .len), #[(t 24)], #[22]⟩),
      O1 (some 26) 4 (.binOp .gtr 3 (t 25) (ci 30) 3),
      O1 (some 27) 4 (.move (t 26)),
      O2 (some 28) 27 (.move (t 2)) (3, false),
      O2 (some 29) 3 (.call ⟨(.builtin .len), #[(t 28)], #[27]⟩) (3, false),
      O2 (some 30) 4 (.binOp .gtr 3 (t 29) (ci 30) 3) (3, false),
      O1 (some 31) 4 (.pick (t 27) (.const (.bool true)) (t 30)),
      O1 (some 32) 4 (.move (t 31)),
      O2 (some 33) 9 (.move (t 3)) (8, false),
      O2 (some 34) 3 (.call ⟨(.builtin .len), #[(t 33)], #[9]⟩) (8, false),
      O2 (some 35) 4 (.binOp .gtr 3 (t 34) (ci 100) 3) (8, false),
      O1 (some 36) 4 (.pick (t 32) (.const (.bool true)) (t 35))]⟩ false)
    (.cond (t 36)
     (.seq
      (.region 2 ⟨[O1 (some 37) 4 (.call ⟨(.value (.func 10)), #[], #[]⟩),
        O1 (some 10) 4 (.assign (t 37))]⟩ false)
      .ret)
     .skip))
   (.seq
    (.region 3 ⟨[O1 (some 38) 22 (.move (t 1)),
      O1 (some 39) 22 (.call ⟨(.value (.func 11)), #[(t 38)], #[22]⟩),
      O1 (some 11) 22 (.assign (t 39))]⟩ false)
    (.seq
     (.region 4 ⟨[O1 (some 41) 24 (.load 24 (t 5)),
       O1 (some 42) 22 (.move (t 11)),
       O1 (some 43) 29 (.call ⟨(.value (.func 8)), #[(t 41), (t 42)], #[24, 22]⟩),
       O1 (some 40) 29 (.move (t 43)),
       O1 (some 44) 27 (.extract (t 40) 0),
       O1 (some 45) 28 (.extract (t 40) 1),
       O1 (some 12) 27 (.assign (t 44)),
       O1 (some 13) 28 (.assign (t 45))]⟩ false)
     (.seq
      (.region 5 ⟨[O1 (some 47) 24 (.load 24 (t 5)),
        O1 (some 48) 22 (.move (t 1)),
        O1 (some 49) 29 (.call ⟨(.value (.func 12)), #[(t 47), (t 48)], #[24, 22]⟩),
        O1 (some 46) 29 (.move (t 49)),
        O1 (some 50) 27 (.extract (t 46) 0),
        O1 (some 51) 28 (.extract (t 46) 1),
        O1 (some 14) 27 (.assign (t 50)),
        O1 (some 15) 28 (.assign (t 51))]⟩ false)
      (.seq
       (.seq
        (.region 6 #[⟨(some 52), .move (t 12), 27, "law.go:47", #[], none⟩,
          ⟨(some 53), .move (t 14), 27, "law.go:47", #[], none⟩,
          ⟨(some 54), .call ⟨(.value (.func 13)), #[(t 52), (t 53)], #[27, 27]⟩, 4, "law.go:47", #[⟨0, .data⟩, ⟨1, .data⟩], none⟩,
          ⟨(some 55), .unOp .not 4 (t 54), 4, "law.go:47", #[⟨2, .data⟩], none⟩,
          ⟨(some 56), .move (t 55), 4, "law.go:47", #[⟨3, .data⟩, ⟨2, .chain⟩], none⟩,
          ⟨(some 57), .move (t 13), 28, "law.go:47", #[⟨4, .guard⟩], (some (4, false))⟩,
          ⟨(some 58), .move (t 15), 28, "law.go:47", #[⟨4, .guard⟩], (some (4, false))⟩,
          ⟨(some 59), .binOp .neq 28 (t 57) (t 58) 28, 4, "law.go:47", #[⟨5, .data⟩, ⟨6, .data⟩, ⟨4, .guard⟩], (some (4, false))⟩,
          ⟨(some 60), .pick (t 56) (.const (.bool true)) (t 59), 4, "law.go:47", #[⟨4, .data⟩, ⟨7, .data⟩], none⟩,
          ⟨(some 61), .move (t 60), 4, "law.go:47", #[⟨8, .data⟩, ⟨4, .chain⟩], none⟩,
          ⟨(some 62), .move (t 11), 22, "law.go:47", #[⟨9, .guard⟩], (some (9, false))⟩,
          ⟨(some 63), .move (t 1), 22, "law.go:47", #[⟨9, .guard⟩], (some (9, false))⟩,
          ⟨(some 64), .call ⟨(.value (.func 14)), #[(t 62), (t 63)], #[22, 22]⟩, 4, "law.go:47", #[⟨10, .data⟩, ⟨11, .data⟩, ⟨9, .chain⟩, ⟨9, .guard⟩], (some (9, false))⟩,
          ⟨(some 65), .unOp .not 4 (t 64), 4, "law.go:47", #[⟨12, .data⟩, ⟨9, .guard⟩], (some (9, false))⟩,
          ⟨(some 66), .pick (t 61) (.const (.bool true)) (t 65), 4, "law.go:47", #[⟨9, .data⟩, ⟨13, .data⟩], none⟩,
          ⟨(some 67), .move (t 66), 4, "law.go:47", #[⟨14, .data⟩, ⟨12, .chain⟩], none⟩,
          ⟨(some 68), .load 24 (t 5), 24, "law.go:47", #[⟨15, .guard⟩], (some (15, false))⟩,
          ⟨(some 69), .move (t 2), 27, "law.go:47", #[⟨15, .guard⟩], (some (15, false))⟩,
          ⟨(some 70), .call ⟨(.value (.func 9)), #[(t 68), (t 69)], #[24, 27]⟩, 28, "law.go:47", #[⟨16, .data⟩, ⟨17, .data⟩, ⟨15, .chain⟩, ⟨15, .guard⟩], (some (15, false))⟩,
          ⟨(some 71), .load 24 (t 5), 24, "law.go:47", #[⟨15, .guard⟩], (some (15, false))⟩,
          ⟨(some 72), .move (t 2), 27, "law.go:47", #[⟨15, .guard⟩], (some (15, false))⟩,
          ⟨(some 73), .call ⟨(.value (.func 15)), #[(t 71), (t 72)], #[24, 27]⟩, 28, "law.go:47", #[⟨19, .data⟩, ⟨20, .data⟩, ⟨18, .chain⟩, ⟨15, .guard⟩], (some (15, false))⟩,
          ⟨(some 74), .binOp .neq 28 (t 70) (t 73) 28, 4, "law.go:47", #[⟨18, .data⟩, ⟨21, .data⟩, ⟨15, .guard⟩], (some (15, false))⟩,
          ⟨(some 75), .pick (t 67) (.const (.bool true)) (t 74), 4, "law.go:47", #[⟨15, .data⟩, ⟨22, .data⟩], none⟩] true)
        (.cond (t 75)
         (.seq
          (.region 7 ⟨[O1 (some 10) 4 (.assign (.const (.bool false)))]⟩ false)
          .ret)
         .skip))
       (.seq
        (.region 8 ⟨[O1 (some 77) 24 (.load 24 (t 5)),
          O1 (some 78) 27 (.move (t 2)),
          O1 (some 79) 39 (.call ⟨(.value (.func 16)), #[(t 77), (t 78)], #[24, 27]⟩),
          O1 (some 76) 39 (.move (t 79)),
          O1 (some 80) 22 (.extract (t 76) 0),
          O1 (some 81) 28 (.extract (t 76) 1),
          O1 (some 16) 22 (.assign (t 80)),
          O1 (some 13) 28 (.assign (t 81))]⟩ false)
        (.seq
         (.region 9 ⟨[O1 (some 83) 24 (.load 24 (t 5)),
           O1 (some 84) 27 (.move (t 2)),
           O1 (some 85) 39 (.call ⟨(.value (.func 17)), #[(t 83), (t 84)], #[24, 27]⟩),
           O1 (some 82) 39 (.move (t 85)),
           O1 (some 86) 22 (.extract (t 82) 0),
           O1 (some 87) 28 (.extract (t 82) 1),
           O1 (some 17) 22 (.assign (t 86)),
           O1 (some 15) 28 (.assign (t 87))]⟩ false)
         (.seq
          (.region 10 ⟨[O1 (some 89) 9 (.move (t 3)),
            O1 (some 90) 33 (.load 33 (t 9)),
            O1 (some 91) 41 (.call ⟨(.value (.func 18)), #[(t 89), (t 90)], #[9, 33]⟩),
            O1 (some 88) 41 (.move (t 91)),
            O1 (some 92) 9 (.extract (t 88) 0),
            O1 (some 93) 9 (.extract (t 88) 1),
            O1 (some 94) 28 (.extract (t 88) 2),
            O1 (some 18) 9 (.assign (t 92)),
            O1 (some 19) 9 (.assign (t 93)),
            O1 (some 20) 28 (.assign (t 94))]⟩ false)
          (.seq
           (.region 11 ⟨[O1 (some 96) 9 (.move (t 3)),
             O1 (some 97) 33 (.load 33 (t 9)),
             O1 (some 98) 41 (.call ⟨(.value (.func 19)), #[(t 96), (t 97)], #[9, 33]⟩),
             O1 (some 95) 41 (.move (t 98)),
             O1 (some 99) 9 (.extract (t 95) 0),
             O1 (some 100) 9 (.extract (t 95) 1),
             O1 (some 101) 28 (.extract (t 95) 2),
             O1 (some 21) 9 (.assign (t 99)),
             O1 (some 22) 9 (.assign (t 100)),
             O1 (some 23) 28 (.assign (t 101))]⟩ false)
           (.seq
            (.region 12 ⟨[O1 (some 102) 22 (.move (t 16)),
              O1 (some 103) 22 (.move (t 17)),
              O1 (some 104) 4 (.call ⟨(.value (.func 14)), #[(t 102), (t 103)], #[22, 22]⟩),
              O1 (some 105) 4 (.move (t 104)),
              O2 (some 106) 28 (.move (t 13)) (3, true),
              O2 (some 107) 28 (.move (t 15)) (3, true),
              O2 (some 108) 4 (.binOp .eql 28 (t 106) (t 107) 28) (3, true),
              O1 (some 109) 4 (.pick (t 105) (t 108) (.const (.bool false))),
              O1 (some 110) 4 (.move (t 109)),
              O2 (some 111) 9 (.move (t 18)) (8, true),
              O2 (some 112) 9 (.move (t 21)) (8, true),
              O2 (some 113) 4 (.binOp .eql 9 (t 111) (t 112) 9) (8, true),
              O1 (some 114) 4 (.pick (t 110) (t 113) (.const (.bool false))),
              O1 (some 115) 4 (.move (t 114)),
              O2 (some 116) 9 (.move (t 19)) (13, true),
              O2 (some 117) 9 (.move (t 22)) (13, true),
              O2 (some 118) 4 (.binOp .eql 9 (t 116) (t 117) 9) (13, true),
              O1 (some 119) 4 (.pick (t 115) (t 118) (.const (.bool false))),
              O1 (some 120) 4 (.move (t 119)),
              O2 (some 121) 28 (.move (t 20)) (18, true),
              O2 (some 122) 28 (.move (t 23)) (18, true),
              O2 (some 123) 4 (.binOp .eql 28 (t 121) (t 122) 28) (18, true),
              O1 (some 124) 4 (.pick (t 120) (t 123) (.const (.bool false))),
              O1 (some 125) 4 (.move (t 124)),
              O2 (some 126) 4 (.call ⟨(.value (.func 10)), #[], #[]⟩) (23, true),
              O1 (some 127) 4 (.pick (t 125) (t 126) (.const (.bool false))),
              O1 (some 10) 4 (.assign (t 127))]⟩ false)
            .ret)))))))))))
theorem fn4 : (ctx.fn.get 4).map slimF = some ⟨128, [.tmp 10], b4⟩ := by kernel_rfl
theorem vb4 (a0_0 : Int) (a0_1 : Int) (a0_2 : Int) (a0_3 : Int) (a0_4 : Bool) (a0_5 : Bool) (a1 : V) (a2 : V) (a3 : List UInt8) (a4_0 : Int) (a4_1 : Int) (a4_2 : Int) (h : H) (Q : V → H → Prop) : wpC Try.prog ctx false b4 ⟨128, setArgs [(.agg [(.int .i64 a0_0), (.int .i64 a0_1), (.int .i64 a0_2), (.int .i64 a0_3), (.bool a0_4), (.bool a0_5)]), a1, a2, (.str a3), (.agg [(.int .i64 a4_0), (.int .i64 a4_1), (.int .i64 a4_2)])] 0 (Tb.leaf undefV), [], h⟩ (endW ctx ⟨128, [.tmp 10], b4⟩ Q) = ((h.next < T.top ∧ ∀ p0 h1, p0 = h.next → h1 = h.new (.cells (.ls [(.int .i64 a0_0), (.int .i64 a0_1), (.int .i64 a0_2), (.int .i64 a0_3), (.bool a0_4), (.bool a0_5)]) ⟨0, 25, 0⟩ true false) → (h1.next < T.top ∧ ∀ p2 h3, p2 = h1.next → h3 = h1.new (.cells (.ls [(.int .i64 a4_0), (.int .i64 a4_1), (.int .i64 a4_2)]) ⟨0, 34, 0⟩ true false) → ∃ (x4 : Int), alen ctx 22 h3 a1 = some (.int .i64 x4) ∧ (((30 : Int) < x4 → RF Try.prog ctx 10 [] h3 (fun v5 h6 => ∃ (b7 : Bool), v5 = (.bool b7) ∧ ((b7 = true → Q (.bool true) h6) ∧ (b7 = false → Q (.bool false) h6)))) ∧ (¬((30 : Int) < x4) → ∃ (x8 : Int), alen ctx 27 h3 a2 = some (.int .i64 x8) ∧ (((30 : Int) < x8 → RF Try.prog ctx 10 [] h3 (fun v9 h10 => ∃ (b11 : Bool), v9 = (.bool b11) ∧ ((b11 = true → Q (.bool true) h10) ∧ (b11 = false → Q (.bool false) h10)))) ∧ (¬((30 : Int) < x8) → (((100 : Int) < (Int.ofNat (List.length a3)) → RF Try.prog ctx 10 [] h3 (fun v12 h13 => ∃ (b14 : Bool), v12 = (.bool b14) ∧ ((b14 = true → Q (.bool true) h13) ∧ (b14 = false → Q (.bool false) h13)))) ∧ (¬((100 : Int) < (Int.ofNat (List.length a3))) → RF Try.prog ctx 11 [a1] h3 (fun v15 h16 => ∃ (v17 : V), v15 = v17 ∧ ∃ (x18 : Int) (x19 : Int) (x20 : Int) (x21 : Int) (b22 : Bool) (b23 : Bool), ald ctx 24 h16 (.ptr p0 0) = some (.agg [(.int .i64 x18), (.int .i64 x19), (.int .i64 x20), (.int .i64 x21), (.bool b22), (.bool b23)]) ∧ RF Try.prog ctx 8 [(.agg [(.int .i64 x18), (.int .i64 x19), (.int .i64 x20), (.int .i64 x21), (.bool b22), (.bool b23)]), v17] h16 (fun v24 h25 => ∃ (v26 : V) (x27 : Int), v24 = (.tuple [v26, (.int .i64 x27)]) ∧ ∃ (x28 : Int) (x29 : Int) (x30 : Int) (x31 : Int) (b32 : Bool) (b33 : Bool), ald ctx 24 h25 (.ptr p0 0) = some (.agg [(.int .i64 x28), (.int .i64 x29), (.int .i64 x30), (.int .i64 x31), (.bool b32), (.bool b33)]) ∧ RF Try.prog ctx 12 [(.agg [(.int .i64 x28), (.int .i64 x29), (.int .i64 x30), (.int .i64 x31), (.bool b32), (.bool b33)]), a1] h25 (fun v34 h35 => ∃ (v36 : V) (x37 : Int), v34 = (.tuple [v36, (.int .i64 x37)]) ∧ ((h35.next ≤ T.top ∧ h35.low ≤ T.top) ∧ RF Try.prog ctx 13 [v26, v36] (topH h35) (fun v38 h39 => ∃ (b40 : Bool), v38 = (.bool b40) ∧ ((b40 = true → ((h35.next ≤ h39.low ∧ h39.next ≤ T.top) ∧ ∀ h41, h41 = lowM h35 h39 → ((x27 ≠ x37 → Q (.bool false) h41) ∧ (¬(x27 ≠ x37) → RF Try.prog ctx 14 [v17, a1] (topH h41) (fun v42 h43 => ∃ (b44 : Bool), v42 = (.bool b44) ∧ ((b44 = true → ((h41.next ≤ h43.low ∧ h43.next ≤ T.top) ∧ ∀ h45, h45 = lowM h41 h43 → ∃ (x46 : Int) (x47 : Int) (x48 : Int) (x49 : Int) (b50 : Bool) (b51 : Bool), ald ctx 24 h45 (.ptr p0 0) = some (.agg [(.int .i64 x46), (.int .i64 x47), (.int .i64 x48), (.int .i64 x49), (.bool b50), (.bool b51)]) ∧ RF Try.prog ctx 9 [(.agg [(.int .i64 x46), (.int .i64 x47), (.int .i64 x48), (.int .i64 x49), (.bool b50), (.bool b51)]), a2] (topH h45) (fun v52 h53 => ∃ (x54 : Int), v52 = (.int .i64 x54) ∧ ((h45.next ≤ h53.low ∧ h53.next ≤ T.top) ∧ ∀ h55, h55 = lowM h45 h53 → ∃ (x56 : Int) (x57 : Int) (x58 : Int) (x59 : Int) (b60 : Bool) (b61 : Bool), ald ctx 24 h55 (.ptr p0 0) = some (.agg [(.int .i64 x56), (.int .i64 x57), (.int .i64 x58), (.int .i64 x59), (.bool b60), (.bool b61)]) ∧ RF Try.prog ctx 15 [(.agg [(.int .i64 x56), (.int .i64 x57), (.int .i64 x58), (.int .i64 x59), (.bool b60), (.bool b61)]), a2] h55 (fun v62 h63 => ∃ (x64 : Int), v62 = (.int .i64 x64) ∧ ((x54 ≠ x64 → Q (.bool false) h63) ∧ (¬(x54 ≠ x64) → ∃ (x65 : Int) (x66 : Int) (x67 : Int) (x68 : Int) (b69 : Bool) (b70 : Bool), ald ctx 24 h63 (.ptr p0 0) = some (.agg [(.int .i64 x65), (.int .i64 x66), (.int .i64 x67), (.int .i64 x68), (.bool b69), (.bool b70)]) ∧ RF Try.prog ctx 16 [(.agg [(.int .i64 x65), (.int .i64 x66), (.int .i64 x67), (.int .i64 x68), (.bool b69), (.bool b70)]), a2] h63 (fun v71 h72 => ∃ (v73 : V) (x74 : Int), v71 = (.tuple [v73, (.int .i64 x74)]) ∧ ∃ (x75 : Int) (x76 : Int) (x77 : Int) (x78 : Int) (b79 : Bool) (b80 : Bool), ald ctx 24 h72 (.ptr p0 0) = some (.agg [(.int .i64 x75), (.int .i64 x76), (.int .i64 x77), (.int .i64 x78), (.bool b79), (.bool b80)]) ∧ RF Try.prog ctx 17 [(.agg [(.int .i64 x75), (.int .i64 x76), (.int .i64 x77), (.int .i64 x78), (.bool b79), (.bool b80)]), a2] h72 (fun v81 h82 => ∃ (v83 : V) (x84 : Int), v81 = (.tuple [v83, (.int .i64 x84)]) ∧ ∃ (x85 : Int) (x86 : Int) (x87 : Int), ald ctx 33 h82 (.ptr p2 0) = some (.agg [(.int .i64 x85), (.int .i64 x86), (.int .i64 x87)]) ∧ RF Try.prog ctx 18 [(.str a3), (.agg [(.int .i64 x85), (.int .i64 x86), (.int .i64 x87)])] h82 (fun v88 h89 => ∃ (l90 : List UInt8) (l91 : List UInt8) (x92 : Int), v88 = (.tuple [(.str l90), (.str l91), (.int .i64 x92)]) ∧ ∃ (x93 : Int) (x94 : Int) (x95 : Int), ald ctx 33 h89 (.ptr p2 0) = some (.agg [(.int .i64 x93), (.int .i64 x94), (.int .i64 x95)]) ∧ RF Try.prog ctx 19 [(.str a3), (.agg [(.int .i64 x93), (.int .i64 x94), (.int .i64 x95)])] h89 (fun v96 h97 => ∃ (l98 : List UInt8) (l99 : List UInt8) (x100 : Int), v96 = (.tuple [(.str l98), (.str l99), (.int .i64 x100)]) ∧ RF Try.prog ctx 14 [v73, v83] h97 (fun v101 h102 => ∃ (b103 : Bool), v101 = (.bool b103) ∧ ((b103 = true → ((x74 = x84 → ((l90 = l98 → ((l91 = l99 → ((x92 = x100 → RF Try.prog ctx 10 [] h102 (fun v104 h105 => ∃ (b106 : Bool), v104 = (.bool b106) ∧ ((b106 = true → Q (.bool true) h105) ∧ (b106 = false → Q (.bool false) h105)))) ∧ (¬(x92 = x100) → Q (.bool false) h102))) ∧ (¬(l91 = l99) → Q (.bool false) h102))) ∧ (¬(l90 = l98) → Q (.bool false) h102))) ∧ (¬(x74 = x84) → Q (.bool false) h102))) ∧ (b103 = false → Q (.bool false) h102)))))))))))))) ∧ (b44 = false → ((h41.next ≤ h43.low ∧ h43.next ≤ T.top) ∧ ∀ h107, h107 = lowM h41 h43 → Q (.bool false) h107)))))))) ∧ (b40 = false → ((h35.next ≤ h39.low ∧ h39.next ≤ T.top) ∧ ∀ h108, h108 = lowM h35 h39 → Q (.bool false) h108))))))))))))))))) := by kernel_rfl

/- cheesepress/cheesepresslaw36.JobsWhole -/
def l5_0 : Code :=
 (.seq
  (.seq
   (.region 9 ⟨[O1 (some 42) 3 (.move (t 12)),
     O1 (some 43) 27 (.move (t 7)),
     O1 (some 44) 3 (.call ⟨(.builtin .len), #[(t 43)], #[27]⟩),
     O1 (some 45) 4 (.binOp .lss 3 (t 42) (t 44) 3)]⟩ false)
   (.cond (t 45)
    .skip
    (.exit 0)))
  (.seq
   (.block 1
    (.seq
     (.region 11 ⟨[O1 (some 49) 9 (.move (t 5)),
       O1 (some 50) 27 (.move (t 7)),
       O1 (some 51) 3 (.move (t 12)),
       O1 (some 52) 0 (.indexAddr 27 (t 50) (t 51)),
       O1 (some 53) 33 (.load 33 (t 52)),
       O1 (some 54) 41 (.call ⟨(.value (.func 18)), #[(t 49), (t 53)], #[9, 33]⟩),
       O1 (some 48) 41 (.move (t 54)),
       O1 (some 55) 9 (.extract (t 48) 0),
       O1 (some 56) 9 (.extract (t 48) 1),
       O1 (some 57) 28 (.extract (t 48) 2),
       O1 (some 13) 9 (.assign (t 55)),
       O1 (some 14) 9 (.assign (t 56)),
       O1 (some 15) 28 (.assign (t 57))]⟩ false)
     (.seq
      (.seq
       (.region 12 ⟨[O1 (some 58) 28 (.move (t 15)),
         O1 (some 59) 4 (.binOp .neq 28 (t 58) (ci 0) 28),
         O1 (some 60) 4 (.move (t 59)),
         O2 (some 61) 27 (.move (t 7)) (2, false),
         O2 (some 62) 3 (.move (t 12)) (2, false),
         O2 (some 63) 0 (.indexAddr 27 (t 61) (t 62)) (2, false),
         O2 (some 64) 0 (.fieldAddr 33 (t 63) 0) (2, false),
         O2 (some 65) 3 (.load 3 (t 64)) (2, false),
         O2 (some 66) 9 (.move (t 11)) (2, false),
         O2 (some 67) 3 (.call ⟨(.builtin .len), #[(t 66)], #[9]⟩) (2, false),
         O2 (some 68) 4 (.binOp .neq 3 (t 65) (t 67) 3) (2, false),
         O1 (some 69) 4 (.pick (t 60) (.const (.bool true)) (t 68)),
         O1 (some 70) 4 (.move (t 69)),
         O2 (some 71) 9 (.move (t 13)) (12, false),
         O2 (some 72) 3 (.call ⟨(.builtin .len), #[(t 71)], #[9]⟩) (12, false),
         O2 (some 73) 3 (.move (t 9)) (12, false),
         O2 (some 74) 9 (.move (t 11)) (12, false),
         O2 (some 75) 3 (.call ⟨(.builtin .len), #[(t 74)], #[9]⟩) (12, false),
         O2 (some 76) 3 (.call ⟨(.builtin .min), #[(t 73), (t 75)], #[3, 3]⟩) (12, false),
         O2 (some 77) 4 (.binOp .neq 3 (t 72) (t 76) 3) (12, false),
         O1 (some 78) 4 (.pick (t 70) (.const (.bool true)) (t 77))]⟩ false)
       (.cond (t 78)
        (.seq
         (.region 13 ⟨[O1 (some 4) 4 (.assign (.const (.bool false)))]⟩ false)
         .ret)
        .skip))
      (.region 14 ⟨[O1 (some 79) 9 (.move (t 11)),
        O1 (some 80) 9 (.move (t 14)),
        O1 (some 81) 9 (.binOp .add 9 (t 79) (t 80) 9),
        O1 (some 11) 9 (.assign (t 81))]⟩ false))))
   (.region 10 ⟨[O1 (some 46) 3 (.move (t 12)),
     O1 (some 47) 3 (.binOp .add 3 (t 46) (ci 1) 3),
     O1 (some 12) 3 (.assign (t 47))]⟩ false)))
def r5_1 : Code :=
 (.seq
  (.region 15 ⟨[O1 (some 82) 9 (.move (t 11)),
    O1 (some 83) 9 (.move (t 5)),
    O1 (some 84) 4 (.binOp .eql 9 (t 82) (t 83) 9),
    O1 (some 85) 4 (.move (t 84)),
    O2 (some 86) 4 (.call ⟨(.value (.func 10)), #[], #[]⟩) (3, true),
    O1 (some 87) 4 (.pick (t 85) (t 86) (.const (.bool false))),
    O1 (some 4) 4 (.assign (t 87))]⟩ false)
  .ret)
def b5 : Code :=
 (.seq
  (.region 0 ⟨[O1 (some 4) 4 (.assign (.const (.bool false)))]⟩ false)
  (.seq
   (.region 1 ⟨[O1 (some 16) 22 (.move (t 0)),
     O1 (some 17) 9 (.call ⟨(.value (.func 20)), #[(t 16), (ci 300)], #[22, 3]⟩),
     O1 (some 5) 9 (.assign (t 17))]⟩ false)
   (.seq
    (.region 2 ⟨[O1 (some 18) 3 (.move (t 1)),
      O1 (some 19) 24 (.call ⟨(.value (.func 6)), #[(t 18)], #[3]⟩),
      O1 (some 6) 0 (.alloc 24),
      O1 none 0 (.store 24 (t 6) (t 19))]⟩ false)
    (.seq
     (.region 3 ⟨[O1 (some 21) 24 (.load 24 (t 6)),
       O1 (some 22) 9 (.move (t 5)),
       O1 (some 23) 29 (.call ⟨(.value (.func 21)), #[(t 21), (t 22)], #[24, 9]⟩),
       O1 (some 20) 29 (.move (t 23)),
       O1 (some 24) 27 (.extract (t 20) 0),
       O1 (some 25) 28 (.extract (t 20) 1),
       O1 (some 7) 27 (.assign (t 24)),
       O1 (some 8) 28 (.assign (t 25))]⟩ false)
     (.seq
      (.region 4 ⟨[O1 (some 27) 24 (.load 24 (t 6)),
        O1 (some 28) 46 (.call ⟨(.value (.func 22)), #[(t 27)], #[24]⟩),
        O1 (some 26) 46 (.move (t 28)),
        O1 (some 29) 3 (.extract (t 26) 0),
        O1 (some 30) 28 (.extract (t 26) 1),
        O1 (some 9) 3 (.assign (t 29)),
        O1 (some 10) 28 (.assign (t 30))]⟩ false)
      (.seq
       (.seq
        (.region 5 ⟨[O1 (some 31) 28 (.move (t 8)),
          O1 (some 32) 4 (.binOp .neq 28 (t 31) (ci 0) 28),
          O1 (some 33) 4 (.move (t 32)),
          O2 (some 34) 28 (.move (t 10)) (2, false),
          O2 (some 35) 4 (.binOp .neq 28 (t 34) (ci 0) 28) (2, false),
          O1 (some 36) 4 (.pick (t 33) (.const (.bool true)) (t 35)),
          O1 (some 37) 4 (.move (t 36)),
          O2 (some 38) 27 (.move (t 7)) (6, false),
          O2 (some 39) 3 (.call ⟨(.builtin .len), #[(t 38)], #[27]⟩) (6, false),
          O2 (some 40) 4 (.binOp .eql 3 (t 39) (ci 0) 3) (6, false),
          O1 (some 41) 4 (.pick (t 37) (.const (.bool true)) (t 40))]⟩ false)
        (.cond (t 41)
         (.seq
          (.region 6 ⟨[O1 (some 4) 4 (.assign (.const (.bool false)))]⟩ false)
          .ret)
         .skip))
       (.seq
        (.region 7 ⟨[O1 (some 11) 9 (.assign (cs []))]⟩ false)
        (.seq
         (.seq
          (.region 8 ⟨[O1 (some 12) 3 (.assign (ci 0))]⟩ false)
          (.block 0
           (.loop l5_0)))
         r5_1))))))))
theorem fn5 : (ctx.fn.get 5).map slimF = some ⟨88, [.tmp 4], b5⟩ := by kernel_rfl
theorem vl5_0 (tm : Tm) (y12 : Int) (y7 : V) (y5 : List UInt8) (y11 : List UInt8) (y9 : Int) (d : List AD) (h : H) (Q : AX → St → Prop) : wpC Try.prog ctx false l5_0 ⟨88, (Tb.set (Tb.set (Tb.set (Tb.set (Tb.set tm 12 (.int .i64 y12)) 7 y7) 5 (.str y5)) 11 (.str y11)) 9 (.int .i64 y9)), d, h⟩ (sealQ [4, 12, 7, 5, 11, 9] Q) = (∃ (x0 : Int), alen ctx 27 h y7 = some (.int .i64 x0) ∧ ((y12 < x0 → ∃ p1 o2, aidx ctx 27 y7 (.int .i64 y12) = some (.ptr p1 o2) ∧ ∃ (x3 : Int) (x4 : Int) (x5 : Int), ald ctx 33 h (.ptr p1 o2) = some (.agg [(.int .i64 x3), (.int .i64 x4), (.int .i64 x5)]) ∧ RF Try.prog ctx 18 [(.str y5), (.agg [(.int .i64 x3), (.int .i64 x4), (.int .i64 x5)])] h (fun v6 h7 => ∃ (l8 : List UInt8) (l9 : List UInt8) (x10 : Int), v6 = (.tuple [(.str l8), (.str l9), (.int .i64 x10)]) ∧ ((x10 ≠ (0 : Int) → (∀ tm', getV tm' 4 = (.bool false) → getV tm' 12 = (.int .i64 y12) → getV tm' 7 = y7 → getV tm' 5 = (.str y5) → getV tm' 11 = (.str y11) → getV tm' 9 = (.int .i64 y9) → Q .ret ⟨88, tm', d, h7⟩)) ∧ (¬(x10 ≠ (0 : Int)) → ∃ p11 o12, aidx ctx 27 y7 (.int .i64 y12) = some (.ptr p11 o12) ∧ ∃ (x13 : Int), ald ctx 3 h7 (.ptr p11 (o12 + 0)) = some (.int .i64 x13) ∧ ((x13 ≠ (Int.ofNat (List.length y11)) → (∀ tm', getV tm' 4 = (.bool false) → getV tm' 12 = (.int .i64 y12) → getV tm' 7 = y7 → getV tm' 5 = (.str y5) → getV tm' 11 = (.str y11) → getV tm' 9 = (.int .i64 y9) → Q .ret ⟨88, tm', d, h7⟩)) ∧ (¬(x13 ≠ (Int.ofNat (List.length y11))) → (((Int.ofNat (List.length l8)) ≠ (min y9 (Int.ofNat (List.length y11))) → (∀ tm', getV tm' 4 = (.bool false) → getV tm' 12 = (.int .i64 y12) → getV tm' 7 = y7 → getV tm' 5 = (.str y5) → getV tm' 11 = (.str y11) → getV tm' 9 = (.int .i64 y9) → Q .ret ⟨88, tm', d, h7⟩)) ∧ (¬((Int.ofNat (List.length l8)) ≠ (min y9 (Int.ofNat (List.length y11)))) → (List.length y11 + List.length l9 ≤ 4611686018427387904 ∧ (∀ tm', getV tm' 4 = getV tm 4 → getV tm' 12 = (.int .i64 (w64 (y12 + (1 : Int)))) → getV tm' 7 = y7 → getV tm' 5 = (.str y5) → getV tm' 11 = (.str (y11 ++ l9)) → getV tm' 9 = (.int .i64 y9) → Q .normal ⟨88, tm', d, h7⟩)))))))))) ∧ (¬(y12 < x0) → (∀ tm', getV tm' 4 = getV tm 4 → getV tm' 12 = (.int .i64 y12) → getV tm' 7 = y7 → getV tm' 5 = (.str y5) → getV tm' 11 = (.str y11) → getV tm' 9 = (.int .i64 y9) → Q (.exit 0) ⟨88, tm', d, h⟩)))) := by kernel_rfl
theorem vr5_1 (tm : Tm) (y11 : List UInt8) (y5 : List UInt8) (d : List AD) (h : H) (Q : AX → St → Prop) : wpC Try.prog ctx false r5_1 ⟨88, (Tb.set (Tb.set tm 11 (.str y11)) 5 (.str y5)), d, h⟩ (sealQ [4, 12, 7, 5, 11, 9] Q) = (((y11 = y5 → RF Try.prog ctx 10 [] h (fun v0 h1 => ∃ (b2 : Bool), v0 = (.bool b2) ∧ ((b2 = true → (∀ tm', getV tm' 4 = (.bool true) → getV tm' 12 = getV tm 12 → getV tm' 7 = getV tm 7 → getV tm' 5 = (.str y5) → getV tm' 11 = (.str y11) → getV tm' 9 = getV tm 9 → Q .ret ⟨88, tm', d, h1⟩)) ∧ (b2 = false → (∀ tm', getV tm' 4 = (.bool false) → getV tm' 12 = getV tm 12 → getV tm' 7 = getV tm 7 → getV tm' 5 = (.str y5) → getV tm' 11 = (.str y11) → getV tm' 9 = getV tm 9 → Q .ret ⟨88, tm', d, h1⟩))))) ∧ (¬(y11 = y5) → (∀ tm', getV tm' 4 = (.bool false) → getV tm' 12 = getV tm 12 → getV tm' 7 = getV tm 7 → getV tm' 5 = (.str y5) → getV tm' 11 = (.str y11) → getV tm' 9 = getV tm 9 → Q .ret ⟨88, tm', d, h⟩)))) := by kernel_rfl
theorem vb5 (a0 : V) (a1 : Int) (h : H) (Q : V → H → Prop) : wpC Try.prog ctx false b5 ⟨88, setArgs [a0, (.int .i64 a1)] 0 (Tb.leaf undefV), [], h⟩ (endW ctx ⟨88, [.tmp 4], b5⟩ Q) = (RF Try.prog ctx 20 [a0, (.int .i64 (300 : Int))] h (fun v0 h1 => ∃ (l2 : List UInt8), v0 = (.str l2) ∧ RF Try.prog ctx 6 [(.int .i64 a1)] h1 (fun v3 h4 => ∃ (x5 : Int) (x6 : Int) (x7 : Int) (x8 : Int) (b9 : Bool) (b10 : Bool), v3 = (.agg [(.int .i64 x5), (.int .i64 x6), (.int .i64 x7), (.int .i64 x8), (.bool b9), (.bool b10)]) ∧ (h4.next < T.top ∧ ∀ p11 h12, p11 = h4.next → h12 = h4.new (.cells (.ls [(.int .i64 (0 : Int)), (.int .i64 (0 : Int)), (.int .i64 (0 : Int)), (.int .i64 (0 : Int)), (.bool false), (.bool false)]) ⟨0, 25, 0⟩ true false) → ∃ h13, ast ctx 24 h12 (.ptr p11 0) (.agg [(.int .i64 x5), (.int .i64 x6), (.int .i64 x7), (.int .i64 x8), (.bool b9), (.bool b10)]) = some h13 ∧ ∃ (x14 : Int) (x15 : Int) (x16 : Int) (x17 : Int) (b18 : Bool) (b19 : Bool), ald ctx 24 h13 (.ptr p11 0) = some (.agg [(.int .i64 x14), (.int .i64 x15), (.int .i64 x16), (.int .i64 x17), (.bool b18), (.bool b19)]) ∧ RF Try.prog ctx 21 [(.agg [(.int .i64 x14), (.int .i64 x15), (.int .i64 x16), (.int .i64 x17), (.bool b18), (.bool b19)]), (.str l2)] h13 (fun v20 h21 => ∃ (v22 : V) (x23 : Int), v20 = (.tuple [v22, (.int .i64 x23)]) ∧ ∃ (x24 : Int) (x25 : Int) (x26 : Int) (x27 : Int) (b28 : Bool) (b29 : Bool), ald ctx 24 h21 (.ptr p11 0) = some (.agg [(.int .i64 x24), (.int .i64 x25), (.int .i64 x26), (.int .i64 x27), (.bool b28), (.bool b29)]) ∧ RF Try.prog ctx 22 [(.agg [(.int .i64 x24), (.int .i64 x25), (.int .i64 x26), (.int .i64 x27), (.bool b28), (.bool b29)])] h21 (fun v30 h31 => ∃ (x32 : Int) (x33 : Int), v30 = (.tuple [(.int .i64 x32), (.int .i64 x33)]) ∧ ((x23 ≠ (0 : Int) → Q (.bool false) h31) ∧ (¬(x23 ≠ (0 : Int)) → ((x33 ≠ (0 : Int) → Q (.bool false) h31) ∧ (¬(x33 ≠ (0 : Int)) → ∃ (x34 : Int), alen ctx 27 h31 v22 = some (.int .i64 x34) ∧ ((x34 = (0 : Int) → Q (.bool false) h31) ∧ (¬(x34 = (0 : Int)) → wpC Try.prog ctx false (.loop l5_0) ⟨88, (Tb.set (Tb.set (Tb.set (Tb.set (Tb.set (Tb.set (Tb.set (Tb.set (Tb.set (Tb.set (Tb.set (Tb.set (Tb.set (Tb.set (Tb.set (Tb.set (Tb.set (Tb.set (Tb.set (Tb.set (Tb.set (Tb.set (Tb.set (Tb.set (Tb.set (Tb.set (Tb.set (Tb.set (Tb.set (Tb.set (Tb.set (Tb.set (Tb.set (Tb.set (Tb.set (Tb.set (Tb.set (Tb.leaf undefV) 0 a0) 1 (.int .i64 a1)) 4 (.bool false)) 16 a0) 17 (.str l2)) 5 (.str l2)) 18 (.int .i64 a1)) 19 (.agg [(.int .i64 x5), (.int .i64 x6), (.int .i64 x7), (.int .i64 x8), (.bool b9), (.bool b10)])) 6 (.ptr p11 0)) 21 (.agg [(.int .i64 x14), (.int .i64 x15), (.int .i64 x16), (.int .i64 x17), (.bool b18), (.bool b19)])) 22 (.str l2)) 23 (.tuple [v22, (.int .i64 x23)])) 20 (.tuple [v22, (.int .i64 x23)])) 24 v22) 25 (.int .i64 x23)) 7 v22) 8 (.int .i64 x23)) 27 (.agg [(.int .i64 x24), (.int .i64 x25), (.int .i64 x26), (.int .i64 x27), (.bool b28), (.bool b29)])) 28 (.tuple [(.int .i64 x32), (.int .i64 x33)])) 26 (.tuple [(.int .i64 x32), (.int .i64 x33)])) 29 (.int .i64 x32)) 30 (.int .i64 x33)) 9 (.int .i64 x32)) 10 (.int .i64 x33)) 31 (.int .i64 x23)) 32 (.bool false)) 33 (.bool false)) 34 (.int .i64 x33)) 35 (.bool false)) 36 (.bool false)) 37 (.bool false)) 38 v22) 39 (.int .i64 x34)) 40 (.bool false)) 41 (.bool false)) 11 (.str [])) 12 (.int .i64 (0 : Int))), [], h31⟩ (fun e s1 => (thenC (fun s1 => wpC Try.prog ctx false r5_1 s1 (endW ctx ⟨88, [.tmp 4], b5⟩ Q)) (endW ctx ⟨88, [.tmp 4], b5⟩ Q)) (exitB 0 e) s1))))))))))))) := by kernel_rfl

/- cheesepress/cheesepresslaw36.params -/
def b6 : Code :=
 (.seq
  (.region 0 ⟨[O1 (some 2) 0 (.alloc 24)]⟩ false)
  (.seq
   (.region 1 ⟨[O1 (some 5) 3 (.move (t 0)),
     O1 (some 6) 3 (.call ⟨(.value (.func 7)), #[(t 5), (ci 1048576)], #[3, 3]⟩),
     O1 (some 3) 3 (.assign (t 6))]⟩ false)
   (.seq
    (.region 2 #[⟨(some 7), .move (t 3), 3, "law.go:15", #[], none⟩,
      ⟨(some 8), .binOp .rem 3 (t 7) (ci 9) 3, 3, "law.go:15", #[⟨0, .data⟩], none⟩,
      ⟨(some 9), .binOp .add 3 (ci 1) (t 8) 3, 3, "law.go:15", #[⟨1, .data⟩], none⟩,
      ⟨(some 10), .buildSlice 22 4 #[(0, (ci 16)), (1, (ci 40)), (2, (ci 100)), (3, (ci 1000))], 22, "law.go:15", #[], none⟩,
      ⟨(some 11), .move (t 3), 3, "law.go:15", #[], none⟩,
      ⟨(some 12), .binOp .quo 3 (t 11) (ci 9) 3, 3, "law.go:15", #[⟨4, .data⟩], none⟩,
      ⟨(some 13), .binOp .rem 3 (t 12) (ci 4) 3, 3, "law.go:15", #[⟨5, .data⟩], none⟩,
      ⟨(some 14), .indexAddr 22 (t 10) (t 13), 0, "law.go:15", #[⟨3, .data⟩, ⟨6, .data⟩], none⟩,
      ⟨(some 15), .load 3 (t 14), 3, "law.go:15", #[⟨7, .data⟩], none⟩,
      ⟨(some 16), .buildSlice 22 4 #[(0, (ci 9)), (1, (ci 0)), (2, (ci 6)), (3, (ci 3))], 22, "law.go:15", #[], none⟩,
      ⟨(some 17), .move (t 3), 3, "law.go:15", #[], none⟩,
      ⟨(some 18), .binOp .quo 3 (t 17) (ci 36) 3, 3, "law.go:15", #[⟨10, .data⟩], none⟩,
      ⟨(some 19), .binOp .rem 3 (t 18) (ci 4) 3, 3, "law.go:15", #[⟨11, .data⟩], none⟩,
      ⟨(some 20), .indexAddr 22 (t 16) (t 19), 0, "law.go:15", #[⟨9, .data⟩, ⟨12, .data⟩], none⟩,
      ⟨(some 21), .load 3 (t 20), 3, "law.go:15", #[⟨13, .data⟩], none⟩,
      ⟨(some 22), .move (t 3), 3, "law.go:15", #[], none⟩,
      ⟨(some 23), .binOp .quo 3 (t 22) (ci 144) 3, 3, "law.go:15", #[⟨15, .data⟩], none⟩,
      ⟨(some 24), .binOp .rem 3 (t 23) (ci 5) 3, 3, "law.go:15", #[⟨16, .data⟩], none⟩,
      ⟨(some 25), .binOp .eql 3 (t 24) (ci 1) 3, 4, "law.go:15", #[⟨17, .data⟩], none⟩,
      ⟨(some 26), .move (t 3), 3, "law.go:15", #[], none⟩,
      ⟨(some 27), .binOp .quo 3 (t 26) (ci 720) 3, 3, "law.go:15", #[⟨19, .data⟩], none⟩,
      ⟨(some 28), .binOp .rem 3 (t 27) (ci 2) 3, 3, "law.go:15", #[⟨20, .data⟩], none⟩,
      ⟨(some 29), .binOp .eql 3 (t 28) (ci 0) 3, 4, "law.go:15", #[⟨21, .data⟩], none⟩,
      ⟨(some 30), .build 24 #[(0, (t 9)), (1, (ci 10)), (2, (t 15)), (3, (t 21)), (4, (t 25)), (5, (t 29))], 24, "law.go:15", #[⟨2, .data⟩, ⟨8, .data⟩, ⟨14, .data⟩, ⟨18, .data⟩, ⟨22, .data⟩], none⟩,
      ⟨(some 4), .alloc 24, 0, "law.go:15", #[], none⟩,
      ⟨none, .store 24 (t 4) (t 30), 0, "law.go:15", #[⟨24, .data⟩, ⟨23, .data⟩, ⟨0, .phase⟩, ⟨1, .phase⟩, ⟨2, .phase⟩, ⟨3, .phase⟩, ⟨4, .phase⟩, ⟨5, .phase⟩, ⟨6, .phase⟩, ⟨7, .phase⟩, ⟨8, .phase⟩, ⟨9, .phase⟩, ⟨10, .phase⟩, ⟨11, .phase⟩, ⟨12, .phase⟩, ⟨13, .phase⟩, ⟨14, .phase⟩, ⟨15, .phase⟩, ⟨16, .phase⟩, ⟨17, .phase⟩, ⟨18, .phase⟩, ⟨19, .phase⟩, ⟨20, .phase⟩, ⟨21, .phase⟩, ⟨22, .phase⟩, ⟨23, .phase⟩, ⟨24, .phase⟩], none⟩] true)
    (.seq
     (.seq
      (.region 3 ⟨[O1 (some 31) 3 (.move (t 3)),
        O1 (some 32) 3 (.binOp .quo 3 (t 31) (ci 1440) 3),
        O1 (some 33) 3 (.binOp .rem 3 (t 32) (ci 4) 3),
        O1 (some 34) 4 (.binOp .eql 3 (t 33) (ci 3) 3)]⟩ false)
      (.cond (t 34)
       (.region 4 ⟨[O1 (some 35) 0 (.fieldAddr 24 (t 4) 1),
         O1 none 0 (.store 3 (t 35) (ci 17))]⟩ false)
       .skip))
     (.seq
      (.region 5 ⟨[O1 (some 36) 24 (.load 24 (t 4)),
        O1 none 0 (.store 24 (t 2) (t 36))]⟩ false)
      .ret)))))
theorem fn6 : (ctx.fn.get 6).map slimF = some ⟨37, [.cell 2 24], b6⟩ := by kernel_rfl
theorem vb6 (a0 : Int) (h : H) (Q : V → H → Prop) : wpC Try.prog ctx false b6 ⟨37, setArgs [(.int .i64 a0)] 0 (Tb.leaf undefV), [], h⟩ (endW ctx ⟨37, [.cell 2 24], b6⟩ Q) = ((h.next < T.top ∧ ∀ p0 h1, p0 = h.next → h1 = h.new (.cells (.ls [(.int .i64 (0 : Int)), (.int .i64 (0 : Int)), (.int .i64 (0 : Int)), (.int .i64 (0 : Int)), (.bool false), (.bool false)]) ⟨0, 25, 0⟩ true false) → RF Try.prog ctx 7 [(.int .i64 a0), (.int .i64 (1048576 : Int))] h1 (fun v2 h3 => ∃ (x4 : Int), v2 = (.int .i64 x4) ∧ ((h3.next ≤ T.top ∧ h3.low ≤ T.top) ∧ ((9 : Int) ≠ 0 ∧ ∃ v5 h6, abuildSlice ctx 22 4 [(0, (.int .i64 (16 : Int))), (1, (.int .i64 (40 : Int))), (2, (.int .i64 (100 : Int))), (3, (.int .i64 (1000 : Int)))] h3 = some (v5, h6) ∧ ((9 : Int) ≠ 0 ∧ ((4 : Int) ≠ 0 ∧ ∃ p7 o8, aidx ctx 22 v5 (.int .i64 (Int.tmod (w64 (Int.tdiv x4 (9 : Int))) (4 : Int))) = some (.ptr p7 o8) ∧ ∃ (x9 : Int), ald ctx 3 h6 (.ptr p7 o8) = some (.int .i64 x9) ∧ ∃ v10 h11, abuildSlice ctx 22 4 [(0, (.int .i64 (9 : Int))), (1, (.int .i64 (0 : Int))), (2, (.int .i64 (6 : Int))), (3, (.int .i64 (3 : Int)))] h6 = some (v10, h11) ∧ ((36 : Int) ≠ 0 ∧ ((4 : Int) ≠ 0 ∧ ∃ p12 o13, aidx ctx 22 v10 (.int .i64 (Int.tmod (w64 (Int.tdiv x4 (36 : Int))) (4 : Int))) = some (.ptr p12 o13) ∧ ∃ (x14 : Int), ald ctx 3 h11 (.ptr p12 o13) = some (.int .i64 x14) ∧ ((144 : Int) ≠ 0 ∧ ((5 : Int) ≠ 0 ∧ (((Int.tmod (w64 (Int.tdiv x4 (144 : Int))) (5 : Int)) = (1 : Int) → ((720 : Int) ≠ 0 ∧ ((2 : Int) ≠ 0 ∧ (((Int.tmod (w64 (Int.tdiv x4 (720 : Int))) (2 : Int)) = (0 : Int) → (h11.next < T.top ∧ ∀ p15 h16, p15 = h11.next → h16 = h11.new (.cells (.ls [(.int .i64 (0 : Int)), (.int .i64 (0 : Int)), (.int .i64 (0 : Int)), (.int .i64 (0 : Int)), (.bool false), (.bool false)]) ⟨0, 25, 0⟩ true false) → ∃ h17, ast ctx 24 h16 (.ptr p15 0) (.agg [(.int .i64 (w64 ((1 : Int) + (Int.tmod x4 (9 : Int))))), (.int .i64 (10 : Int)), (.int .i64 x9), (.int .i64 x14), (.bool true), (.bool true)]) = some h17 ∧ ((1440 : Int) ≠ 0 ∧ ((4 : Int) ≠ 0 ∧ (((Int.tmod (w64 (Int.tdiv x4 (1440 : Int))) (4 : Int)) = (3 : Int) → ∃ h18, ast ctx 3 h17 (.ptr p15 (0 + 1)) (.int .i64 (17 : Int)) = some h18 ∧ ∃ (x19 : Int) (x20 : Int) (x21 : Int) (x22 : Int) (b23 : Bool) (b24 : Bool), ald ctx 24 h18 (.ptr p15 0) = some (.agg [(.int .i64 x19), (.int .i64 x20), (.int .i64 x21), (.int .i64 x22), (.bool b23), (.bool b24)]) ∧ ∃ h25, ast ctx 24 h18 (.ptr p0 0) (.agg [(.int .i64 x19), (.int .i64 x20), (.int .i64 x21), (.int .i64 x22), (.bool b23), (.bool b24)]) = some h25 ∧ (endW ctx ⟨37, [.cell 2 24], b6⟩ Q) .ret ⟨37, (Tb.set (Tb.set (Tb.set (Tb.set (Tb.set (Tb.set (Tb.set (Tb.set (Tb.set (Tb.set (Tb.set (Tb.set (Tb.set (Tb.set (Tb.set (Tb.set (Tb.set (Tb.set (Tb.set (Tb.set (Tb.set (Tb.set (Tb.set (Tb.set (Tb.set (Tb.set (Tb.set (Tb.set (Tb.set (Tb.set (Tb.set (Tb.set (Tb.set (Tb.set (Tb.set (Tb.set (Tb.leaf undefV) 0 (.int .i64 a0)) 2 (.ptr p0 0)) 5 (.int .i64 a0)) 6 (.int .i64 x4)) 3 (.int .i64 x4)) 7 (.int .i64 x4)) 8 (.int .i64 (Int.tmod x4 (9 : Int)))) 9 (.int .i64 (w64 ((1 : Int) + (Int.tmod x4 (9 : Int)))))) 10 v5) 11 (.int .i64 x4)) 12 (.int .i64 (w64 (Int.tdiv x4 (9 : Int))))) 13 (.int .i64 (Int.tmod (w64 (Int.tdiv x4 (9 : Int))) (4 : Int)))) 14 (.ptr p7 o8)) 15 (.int .i64 x9)) 16 v10) 17 (.int .i64 x4)) 18 (.int .i64 (w64 (Int.tdiv x4 (36 : Int))))) 19 (.int .i64 (Int.tmod (w64 (Int.tdiv x4 (36 : Int))) (4 : Int)))) 20 (.ptr p12 o13)) 21 (.int .i64 x14)) 22 (.int .i64 x4)) 23 (.int .i64 (w64 (Int.tdiv x4 (144 : Int))))) 24 (.int .i64 (Int.tmod (w64 (Int.tdiv x4 (144 : Int))) (5 : Int)))) 25 (.bool true)) 26 (.int .i64 x4)) 27 (.int .i64 (w64 (Int.tdiv x4 (720 : Int))))) 28 (.int .i64 (Int.tmod (w64 (Int.tdiv x4 (720 : Int))) (2 : Int)))) 29 (.bool true)) 30 (.agg [(.int .i64 (w64 ((1 : Int) + (Int.tmod x4 (9 : Int))))), (.int .i64 (10 : Int)), (.int .i64 x9), (.int .i64 x14), (.bool true), (.bool true)])) 4 (.ptr p15 0)) 31 (.int .i64 x4)) 32 (.int .i64 (w64 (Int.tdiv x4 (1440 : Int))))) 33 (.int .i64 (Int.tmod (w64 (Int.tdiv x4 (1440 : Int))) (4 : Int)))) 34 (.bool true)) 35 (.ptr p15 (0 + 1))) 36 (.agg [(.int .i64 x19), (.int .i64 x20), (.int .i64 x21), (.int .i64 x22), (.bool b23), (.bool b24)])), [], h25⟩) ∧ (¬((Int.tmod (w64 (Int.tdiv x4 (1440 : Int))) (4 : Int)) = (3 : Int)) → ∃ (x26 : Int) (x27 : Int) (x28 : Int) (x29 : Int) (b30 : Bool) (b31 : Bool), ald ctx 24 h17 (.ptr p15 0) = some (.agg [(.int .i64 x26), (.int .i64 x27), (.int .i64 x28), (.int .i64 x29), (.bool b30), (.bool b31)]) ∧ ∃ h32, ast ctx 24 h17 (.ptr p0 0) (.agg [(.int .i64 x26), (.int .i64 x27), (.int .i64 x28), (.int .i64 x29), (.bool b30), (.bool b31)]) = some h32 ∧ (endW ctx ⟨37, [.cell 2 24], b6⟩ Q) .ret ⟨37, (Tb.set (Tb.set (Tb.set (Tb.set (Tb.set (Tb.set (Tb.set (Tb.set (Tb.set (Tb.set (Tb.set (Tb.set (Tb.set (Tb.set (Tb.set (Tb.set (Tb.set (Tb.set (Tb.set (Tb.set (Tb.set (Tb.set (Tb.set (Tb.set (Tb.set (Tb.set (Tb.set (Tb.set (Tb.set (Tb.set (Tb.set (Tb.set (Tb.set (Tb.set (Tb.set (Tb.leaf undefV) 0 (.int .i64 a0)) 2 (.ptr p0 0)) 5 (.int .i64 a0)) 6 (.int .i64 x4)) 3 (.int .i64 x4)) 7 (.int .i64 x4)) 8 (.int .i64 (Int.tmod x4 (9 : Int)))) 9 (.int .i64 (w64 ((1 : Int) + (Int.tmod x4 (9 : Int)))))) 10 v5) 11 (.int .i64 x4)) 12 (.int .i64 (w64 (Int.tdiv x4 (9 : Int))))) 13 (.int .i64 (Int.tmod (w64 (Int.tdiv x4 (9 : Int))) (4 : Int)))) 14 (.ptr p7 o8)) 15 (.int .i64 x9)) 16 v10) 17 (.int .i64 x4)) 18 (.int .i64 (w64 (Int.tdiv x4 (36 : Int))))) 19 (.int .i64 (Int.tmod (w64 (Int.tdiv x4 (36 : Int))) (4 : Int)))) 20 (.ptr p12 o13)) 21 (.int .i64 x14)) 22 (.int .i64 x4)) 23 (.int .i64 (w64 (Int.tdiv x4 (144 : Int))))) 24 (.int .i64 (Int.tmod (w64 (Int.tdiv x4 (144 : Int))) (5 : Int)))) 25 (.bool true)) 26 (.int .i64 x4)) 27 (.int .i64 (w64 (Int.tdiv x4 (720 : Int))))) 28 (.int .i64 (Int.tmod (w64 (Int.tdiv x4 (720 : Int))) (2 : Int)))) 29 (.bool true)) 30 (.agg [(.int .i64 (w64 ((1 : Int) + (Int.tmod x4 (9 : Int))))), (.int .i64 (10 : Int)), (.int .i64 x9), (.int .i64 x14), (.bool true), (.bool true)])) 4 (.ptr p15 0)) 31 (.int .i64 x4)) 32 (.int .i64 (w64 (Int.tdiv x4 (1440 : Int))))) 33 (.int .i64 (Int.tmod (w64 (Int.tdiv x4 (1440 : Int))) (4 : Int)))) 34 (.bool false)) 36 (.agg [(.int .i64 x26), (.int .i64 x27), (.int .i64 x28), (.int .i64 x29), (.bool b30), (.bool b31)])), [], h32⟩)))))) ∧ (¬((Int.tmod (w64 (Int.tdiv x4 (720 : Int))) (2 : Int)) = (0 : Int)) → (h11.next < T.top ∧ ∀ p33 h34, p33 = h11.next → h34 = h11.new (.cells (.ls [(.int .i64 (0 : Int)), (.int .i64 (0 : Int)), (.int .i64 (0 : Int)), (.int .i64 (0 : Int)), (.bool false), (.bool false)]) ⟨0, 25, 0⟩ true false) → ∃ h35, ast ctx 24 h34 (.ptr p33 0) (.agg [(.int .i64 (w64 ((1 : Int) + (Int.tmod x4 (9 : Int))))), (.int .i64 (10 : Int)), (.int .i64 x9), (.int .i64 x14), (.bool true), (.bool false)]) = some h35 ∧ ((1440 : Int) ≠ 0 ∧ ((4 : Int) ≠ 0 ∧ (((Int.tmod (w64 (Int.tdiv x4 (1440 : Int))) (4 : Int)) = (3 : Int) → ∃ h36, ast ctx 3 h35 (.ptr p33 (0 + 1)) (.int .i64 (17 : Int)) = some h36 ∧ ∃ (x37 : Int) (x38 : Int) (x39 : Int) (x40 : Int) (b41 : Bool) (b42 : Bool), ald ctx 24 h36 (.ptr p33 0) = some (.agg [(.int .i64 x37), (.int .i64 x38), (.int .i64 x39), (.int .i64 x40), (.bool b41), (.bool b42)]) ∧ ∃ h43, ast ctx 24 h36 (.ptr p0 0) (.agg [(.int .i64 x37), (.int .i64 x38), (.int .i64 x39), (.int .i64 x40), (.bool b41), (.bool b42)]) = some h43 ∧ (endW ctx ⟨37, [.cell 2 24], b6⟩ Q) .ret ⟨37, (Tb.set (Tb.set (Tb.set (Tb.set (Tb.set (Tb.set (Tb.set (Tb.set (Tb.set (Tb.set (Tb.set (Tb.set (Tb.set (Tb.set (Tb.set (Tb.set (Tb.set (Tb.set (Tb.set (Tb.set (Tb.set (Tb.set (Tb.set (Tb.set (Tb.set (Tb.set (Tb.set (Tb.set (Tb.set (Tb.set (Tb.set (Tb.set (Tb.set (Tb.set (Tb.set (Tb.set (Tb.leaf undefV) 0 (.int .i64 a0)) 2 (.ptr p0 0)) 5 (.int .i64 a0)) 6 (.int .i64 x4)) 3 (.int .i64 x4)) 7 (.int .i64 x4)) 8 (.int .i64 (Int.tmod x4 (9 : Int)))) 9 (.int .i64 (w64 ((1 : Int) + (Int.tmod x4 (9 : Int)))))) 10 v5) 11 (.int .i64 x4)) 12 (.int .i64 (w64 (Int.tdiv x4 (9 : Int))))) 13 (.int .i64 (Int.tmod (w64 (Int.tdiv x4 (9 : Int))) (4 : Int)))) 14 (.ptr p7 o8)) 15 (.int .i64 x9)) 16 v10) 17 (.int .i64 x4)) 18 (.int .i64 (w64 (Int.tdiv x4 (36 : Int))))) 19 (.int .i64 (Int.tmod (w64 (Int.tdiv x4 (36 : Int))) (4 : Int)))) 20 (.ptr p12 o13)) 21 (.int .i64 x14)) 22 (.int .i64 x4)) 23 (.int .i64 (w64 (Int.tdiv x4 (144 : Int))))) 24 (.int .i64 (Int.tmod (w64 (Int.tdiv x4 (144 : Int))) (5 : Int)))) 25 (.bool true)) 26 (.int .i64 x4)) 27 (.int .i64 (w64 (Int.tdiv x4 (720 : Int))))) 28 (.int .i64 (Int.tmod (w64 (Int.tdiv x4 (720 : Int))) (2 : Int)))) 29 (.bool false)) 30 (.agg [(.int .i64 (w64 ((1 : Int) + (Int.tmod x4 (9 : Int))))), (.int .i64 (10 : Int)), (.int .i64 x9), (.int .i64 x14), (.bool true), (.bool false)])) 4 (.ptr p33 0)) 31 (.int .i64 x4)) 32 (.int .i64 (w64 (Int.tdiv x4 (1440 : Int))))) 33 (.int .i64 (Int.tmod (w64 (Int.tdiv x4 (1440 : Int))) (4 : Int)))) 34 (.bool true)) 35 (.ptr p33 (0 + 1))) 36 (.agg [(.int .i64 x37), (.int .i64 x38), (.int .i64 x39), (.int .i64 x40), (.bool b41), (.bool b42)])), [], h43⟩) ∧ (¬((Int.tmod (w64 (Int.tdiv x4 (1440 : Int))) (4 : Int)) = (3 : Int)) → ∃ (x44 : Int) (x45 : Int) (x46 : Int) (x47 : Int) (b48 : Bool) (b49 : Bool), ald ctx 24 h35 (.ptr p33 0) = some (.agg [(.int .i64 x44), (.int .i64 x45), (.int .i64 x46), (.int .i64 x47), (.bool b48), (.bool b49)]) ∧ ∃ h50, ast ctx 24 h35 (.ptr p0 0) (.agg [(.int .i64 x44), (.int .i64 x45), (.int .i64 x46), (.int .i64 x47), (.bool b48), (.bool b49)]) = some h50 ∧ (endW ctx ⟨37, [.cell 2 24], b6⟩ Q) .ret ⟨37, (Tb.set (Tb.set (Tb.set (Tb.set (Tb.set (Tb.set (Tb.set (Tb.set (Tb.set (Tb.set (Tb.set (Tb.set (Tb.set (Tb.set (Tb.set (Tb.set (Tb.set (Tb.set (Tb.set (Tb.set (Tb.set (Tb.set (Tb.set (Tb.set (Tb.set (Tb.set (Tb.set (Tb.set (Tb.set (Tb.set (Tb.set (Tb.set (Tb.set (Tb.set (Tb.set (Tb.leaf undefV) 0 (.int .i64 a0)) 2 (.ptr p0 0)) 5 (.int .i64 a0)) 6 (.int .i64 x4)) 3 (.int .i64 x4)) 7 (.int .i64 x4)) 8 (.int .i64 (Int.tmod x4 (9 : Int)))) 9 (.int .i64 (w64 ((1 : Int) + (Int.tmod x4 (9 : Int)))))) 10 v5) 11 (.int .i64 x4)) 12 (.int .i64 (w64 (Int.tdiv x4 (9 : Int))))) 13 (.int .i64 (Int.tmod (w64 (Int.tdiv x4 (9 : Int))) (4 : Int)))) 14 (.ptr p7 o8)) 15 (.int .i64 x9)) 16 v10) 17 (.int .i64 x4)) 18 (.int .i64 (w64 (Int.tdiv x4 (36 : Int))))) 19 (.int .i64 (Int.tmod (w64 (Int.tdiv x4 (36 : Int))) (4 : Int)))) 20 (.ptr p12 o13)) 21 (.int .i64 x14)) 22 (.int .i64 x4)) 23 (.int .i64 (w64 (Int.tdiv x4 (144 : Int))))) 24 (.int .i64 (Int.tmod (w64 (Int.tdiv x4 (144 : Int))) (5 : Int)))) 25 (.bool true)) 26 (.int .i64 x4)) 27 (.int .i64 (w64 (Int.tdiv x4 (720 : Int))))) 28 (.int .i64 (Int.tmod (w64 (Int.tdiv x4 (720 : Int))) (2 : Int)))) 29 (.bool false)) 30 (.agg [(.int .i64 (w64 ((1 : Int) + (Int.tmod x4 (9 : Int))))), (.int .i64 (10 : Int)), (.int .i64 x9), (.int .i64 x14), (.bool true), (.bool false)])) 4 (.ptr p33 0)) 31 (.int .i64 x4)) 32 (.int .i64 (w64 (Int.tdiv x4 (1440 : Int))))) 33 (.int .i64 (Int.tmod (w64 (Int.tdiv x4 (1440 : Int))) (4 : Int)))) 34 (.bool false)) 36 (.agg [(.int .i64 x44), (.int .i64 x45), (.int .i64 x46), (.int .i64 x47), (.bool b48), (.bool b49)])), [], h50⟩)))))))))) ∧ (¬((Int.tmod (w64 (Int.tdiv x4 (144 : Int))) (5 : Int)) = (1 : Int)) → ((720 : Int) ≠ 0 ∧ ((2 : Int) ≠ 0 ∧ (((Int.tmod (w64 (Int.tdiv x4 (720 : Int))) (2 : Int)) = (0 : Int) → (h11.next < T.top ∧ ∀ p51 h52, p51 = h11.next → h52 = h11.new (.cells (.ls [(.int .i64 (0 : Int)), (.int .i64 (0 : Int)), (.int .i64 (0 : Int)), (.int .i64 (0 : Int)), (.bool false), (.bool false)]) ⟨0, 25, 0⟩ true false) → ∃ h53, ast ctx 24 h52 (.ptr p51 0) (.agg [(.int .i64 (w64 ((1 : Int) + (Int.tmod x4 (9 : Int))))), (.int .i64 (10 : Int)), (.int .i64 x9), (.int .i64 x14), (.bool false), (.bool true)]) = some h53 ∧ ((1440 : Int) ≠ 0 ∧ ((4 : Int) ≠ 0 ∧ (((Int.tmod (w64 (Int.tdiv x4 (1440 : Int))) (4 : Int)) = (3 : Int) → ∃ h54, ast ctx 3 h53 (.ptr p51 (0 + 1)) (.int .i64 (17 : Int)) = some h54 ∧ ∃ (x55 : Int) (x56 : Int) (x57 : Int) (x58 : Int) (b59 : Bool) (b60 : Bool), ald ctx 24 h54 (.ptr p51 0) = some (.agg [(.int .i64 x55), (.int .i64 x56), (.int .i64 x57), (.int .i64 x58), (.bool b59), (.bool b60)]) ∧ ∃ h61, ast ctx 24 h54 (.ptr p0 0) (.agg [(.int .i64 x55), (.int .i64 x56), (.int .i64 x57), (.int .i64 x58), (.bool b59), (.bool b60)]) = some h61 ∧ (endW ctx ⟨37, [.cell 2 24], b6⟩ Q) .ret ⟨37, (Tb.set (Tb.set (Tb.set (Tb.set (Tb.set (Tb.set (Tb.set (Tb.set (Tb.set (Tb.set (Tb.set (Tb.set (Tb.set (Tb.set (Tb.set (Tb.set (Tb.set (Tb.set (Tb.set (Tb.set (Tb.set (Tb.set (Tb.set (Tb.set (Tb.set (Tb.set (Tb.set (Tb.set (Tb.set (Tb.set (Tb.set (Tb.set (Tb.set (Tb.set (Tb.set (Tb.set (Tb.leaf undefV) 0 (.int .i64 a0)) 2 (.ptr p0 0)) 5 (.int .i64 a0)) 6 (.int .i64 x4)) 3 (.int .i64 x4)) 7 (.int .i64 x4)) 8 (.int .i64 (Int.tmod x4 (9 : Int)))) 9 (.int .i64 (w64 ((1 : Int) + (Int.tmod x4 (9 : Int)))))) 10 v5) 11 (.int .i64 x4)) 12 (.int .i64 (w64 (Int.tdiv x4 (9 : Int))))) 13 (.int .i64 (Int.tmod (w64 (Int.tdiv x4 (9 : Int))) (4 : Int)))) 14 (.ptr p7 o8)) 15 (.int .i64 x9)) 16 v10) 17 (.int .i64 x4)) 18 (.int .i64 (w64 (Int.tdiv x4 (36 : Int))))) 19 (.int .i64 (Int.tmod (w64 (Int.tdiv x4 (36 : Int))) (4 : Int)))) 20 (.ptr p12 o13)) 21 (.int .i64 x14)) 22 (.int .i64 x4)) 23 (.int .i64 (w64 (Int.tdiv x4 (144 : Int))))) 24 (.int .i64 (Int.tmod (w64 (Int.tdiv x4 (144 : Int))) (5 : Int)))) 25 (.bool false)) 26 (.int .i64 x4)) 27 (.int .i64 (w64 (Int.tdiv x4 (720 : Int))))) 28 (.int .i64 (Int.tmod (w64 (Int.tdiv x4 (720 : Int))) (2 : Int)))) 29 (.bool true)) 30 (.agg [(.int .i64 (w64 ((1 : Int) + (Int.tmod x4 (9 : Int))))), (.int .i64 (10 : Int)), (.int .i64 x9), (.int .i64 x14), (.bool false), (.bool true)])) 4 (.ptr p51 0)) 31 (.int .i64 x4)) 32 (.int .i64 (w64 (Int.tdiv x4 (1440 : Int))))) 33 (.int .i64 (Int.tmod (w64 (Int.tdiv x4 (1440 : Int))) (4 : Int)))) 34 (.bool true)) 35 (.ptr p51 (0 + 1))) 36 (.agg [(.int .i64 x55), (.int .i64 x56), (.int .i64 x57), (.int .i64 x58), (.bool b59), (.bool b60)])), [], h61⟩) ∧ (¬((Int.tmod (w64 (Int.tdiv x4 (1440 : Int))) (4 : Int)) = (3 : Int)) → ∃ (x62 : Int) (x63 : Int) (x64 : Int) (x65 : Int) (b66 : Bool) (b67 : Bool), ald ctx 24 h53 (.ptr p51 0) = some (.agg [(.int .i64 x62), (.int .i64 x63), (.int .i64 x64), (.int .i64 x65), (.bool b66), (.bool b67)]) ∧ ∃ h68, ast ctx 24 h53 (.ptr p0 0) (.agg [(.int .i64 x62), (.int .i64 x63), (.int .i64 x64), (.int .i64 x65), (.bool b66), (.bool b67)]) = some h68 ∧ (endW ctx ⟨37, [.cell 2 24], b6⟩ Q) .ret ⟨37, (Tb.set (Tb.set (Tb.set (Tb.set (Tb.set (Tb.set (Tb.set (Tb.set (Tb.set (Tb.set (Tb.set (Tb.set (Tb.set (Tb.set (Tb.set (Tb.set (Tb.set (Tb.set (Tb.set (Tb.set (Tb.set (Tb.set (Tb.set (Tb.set (Tb.set (Tb.set (Tb.set (Tb.set (Tb.set (Tb.set (Tb.set (Tb.set (Tb.set (Tb.set (Tb.set (Tb.leaf undefV) 0 (.int .i64 a0)) 2 (.ptr p0 0)) 5 (.int .i64 a0)) 6 (.int .i64 x4)) 3 (.int .i64 x4)) 7 (.int .i64 x4)) 8 (.int .i64 (Int.tmod x4 (9 : Int)))) 9 (.int .i64 (w64 ((1 : Int) + (Int.tmod x4 (9 : Int)))))) 10 v5) 11 (.int .i64 x4)) 12 (.int .i64 (w64 (Int.tdiv x4 (9 : Int))))) 13 (.int .i64 (Int.tmod (w64 (Int.tdiv x4 (9 : Int))) (4 : Int)))) 14 (.ptr p7 o8)) 15 (.int .i64 x9)) 16 v10) 17 (.int .i64 x4)) 18 (.int .i64 (w64 (Int.tdiv x4 (36 : Int))))) 19 (.int .i64 (Int.tmod (w64 (Int.tdiv x4 (36 : Int))) (4 : Int)))) 20 (.ptr p12 o13)) 21 (.int .i64 x14)) 22 (.int .i64 x4)) 23 (.int .i64 (w64 (Int.tdiv x4 (144 : Int))))) 24 (.int .i64 (Int.tmod (w64 (Int.tdiv x4 (144 : Int))) (5 : Int)))) 25 (.bool false)) 26 (.int .i64 x4)) 27 (.int .i64 (w64 (Int.tdiv x4 (720 : Int))))) 28 (.int .i64 (Int.tmod (w64 (Int.tdiv x4 (720 : Int))) (2 : Int)))) 29 (.bool true)) 30 (.agg [(.int .i64 (w64 ((1 : Int) + (Int.tmod x4 (9 : Int))))), (.int .i64 (10 : Int)), (.int .i64 x9), (.int .i64 x14), (.bool false), (.bool true)])) 4 (.ptr p51 0)) 31 (.int .i64 x4)) 32 (.int .i64 (w64 (Int.tdiv x4 (1440 : Int))))) 33 (.int .i64 (Int.tmod (w64 (Int.tdiv x4 (1440 : Int))) (4 : Int)))) 34 (.bool false)) 36 (.agg [(.int .i64 x62), (.int .i64 x63), (.int .i64 x64), (.int .i64 x65), (.bool b66), (.bool b67)])), [], h68⟩)))))) ∧ (¬((Int.tmod (w64 (Int.tdiv x4 (720 : Int))) (2 : Int)) = (0 : Int)) → (h11.next < T.top ∧ ∀ p69 h70, p69 = h11.next → h70 = h11.new (.cells (.ls [(.int .i64 (0 : Int)), (.int .i64 (0 : Int)), (.int .i64 (0 : Int)), (.int .i64 (0 : Int)), (.bool false), (.bool false)]) ⟨0, 25, 0⟩ true false) → ∃ h71, ast ctx 24 h70 (.ptr p69 0) (.agg [(.int .i64 (w64 ((1 : Int) + (Int.tmod x4 (9 : Int))))), (.int .i64 (10 : Int)), (.int .i64 x9), (.int .i64 x14), (.bool false), (.bool false)]) = some h71 ∧ ((1440 : Int) ≠ 0 ∧ ((4 : Int) ≠ 0 ∧ (((Int.tmod (w64 (Int.tdiv x4 (1440 : Int))) (4 : Int)) = (3 : Int) → ∃ h72, ast ctx 3 h71 (.ptr p69 (0 + 1)) (.int .i64 (17 : Int)) = some h72 ∧ ∃ (x73 : Int) (x74 : Int) (x75 : Int) (x76 : Int) (b77 : Bool) (b78 : Bool), ald ctx 24 h72 (.ptr p69 0) = some (.agg [(.int .i64 x73), (.int .i64 x74), (.int .i64 x75), (.int .i64 x76), (.bool b77), (.bool b78)]) ∧ ∃ h79, ast ctx 24 h72 (.ptr p0 0) (.agg [(.int .i64 x73), (.int .i64 x74), (.int .i64 x75), (.int .i64 x76), (.bool b77), (.bool b78)]) = some h79 ∧ (endW ctx ⟨37, [.cell 2 24], b6⟩ Q) .ret ⟨37, (Tb.set (Tb.set (Tb.set (Tb.set (Tb.set (Tb.set (Tb.set (Tb.set (Tb.set (Tb.set (Tb.set (Tb.set (Tb.set (Tb.set (Tb.set (Tb.set (Tb.set (Tb.set (Tb.set (Tb.set (Tb.set (Tb.set (Tb.set (Tb.set (Tb.set (Tb.set (Tb.set (Tb.set (Tb.set (Tb.set (Tb.set (Tb.set (Tb.set (Tb.set (Tb.set (Tb.set (Tb.leaf undefV) 0 (.int .i64 a0)) 2 (.ptr p0 0)) 5 (.int .i64 a0)) 6 (.int .i64 x4)) 3 (.int .i64 x4)) 7 (.int .i64 x4)) 8 (.int .i64 (Int.tmod x4 (9 : Int)))) 9 (.int .i64 (w64 ((1 : Int) + (Int.tmod x4 (9 : Int)))))) 10 v5) 11 (.int .i64 x4)) 12 (.int .i64 (w64 (Int.tdiv x4 (9 : Int))))) 13 (.int .i64 (Int.tmod (w64 (Int.tdiv x4 (9 : Int))) (4 : Int)))) 14 (.ptr p7 o8)) 15 (.int .i64 x9)) 16 v10) 17 (.int .i64 x4)) 18 (.int .i64 (w64 (Int.tdiv x4 (36 : Int))))) 19 (.int .i64 (Int.tmod (w64 (Int.tdiv x4 (36 : Int))) (4 : Int)))) 20 (.ptr p12 o13)) 21 (.int .i64 x14)) 22 (.int .i64 x4)) 23 (.int .i64 (w64 (Int.tdiv x4 (144 : Int))))) 24 (.int .i64 (Int.tmod (w64 (Int.tdiv x4 (144 : Int))) (5 : Int)))) 25 (.bool false)) 26 (.int .i64 x4)) 27 (.int .i64 (w64 (Int.tdiv x4 (720 : Int))))) 28 (.int .i64 (Int.tmod (w64 (Int.tdiv x4 (720 : Int))) (2 : Int)))) 29 (.bool false)) 30 (.agg [(.int .i64 (w64 ((1 : Int) + (Int.tmod x4 (9 : Int))))), (.int .i64 (10 : Int)), (.int .i64 x9), (.int .i64 x14), (.bool false), (.bool false)])) 4 (.ptr p69 0)) 31 (.int .i64 x4)) 32 (.int .i64 (w64 (Int.tdiv x4 (1440 : Int))))) 33 (.int .i64 (Int.tmod (w64 (Int.tdiv x4 (1440 : Int))) (4 : Int)))) 34 (.bool true)) 35 (.ptr p69 (0 + 1))) 36 (.agg [(.int .i64 x73), (.int .i64 x74), (.int .i64 x75), (.int .i64 x76), (.bool b77), (.bool b78)])), [], h79⟩) ∧ (¬((Int.tmod (w64 (Int.tdiv x4 (1440 : Int))) (4 : Int)) = (3 : Int)) → ∃ (x80 : Int) (x81 : Int) (x82 : Int) (x83 : Int) (b84 : Bool) (b85 : Bool), ald ctx 24 h71 (.ptr p69 0) = some (.agg [(.int .i64 x80), (.int .i64 x81), (.int .i64 x82), (.int .i64 x83), (.bool b84), (.bool b85)]) ∧ ∃ h86, ast ctx 24 h71 (.ptr p0 0) (.agg [(.int .i64 x80), (.int .i64 x81), (.int .i64 x82), (.int .i64 x83), (.bool b84), (.bool b85)]) = some h86 ∧ (endW ctx ⟨37, [.cell 2 24], b6⟩ Q) .ret ⟨37, (Tb.set (Tb.set (Tb.set (Tb.set (Tb.set (Tb.set (Tb.set (Tb.set (Tb.set (Tb.set (Tb.set (Tb.set (Tb.set (Tb.set (Tb.set (Tb.set (Tb.set (Tb.set (Tb.set (Tb.set (Tb.set (Tb.set (Tb.set (Tb.set (Tb.set (Tb.set (Tb.set (Tb.set (Tb.set (Tb.set (Tb.set (Tb.set (Tb.set (Tb.set (Tb.set (Tb.leaf undefV) 0 (.int .i64 a0)) 2 (.ptr p0 0)) 5 (.int .i64 a0)) 6 (.int .i64 x4)) 3 (.int .i64 x4)) 7 (.int .i64 x4)) 8 (.int .i64 (Int.tmod x4 (9 : Int)))) 9 (.int .i64 (w64 ((1 : Int) + (Int.tmod x4 (9 : Int)))))) 10 v5) 11 (.int .i64 x4)) 12 (.int .i64 (w64 (Int.tdiv x4 (9 : Int))))) 13 (.int .i64 (Int.tmod (w64 (Int.tdiv x4 (9 : Int))) (4 : Int)))) 14 (.ptr p7 o8)) 15 (.int .i64 x9)) 16 v10) 17 (.int .i64 x4)) 18 (.int .i64 (w64 (Int.tdiv x4 (36 : Int))))) 19 (.int .i64 (Int.tmod (w64 (Int.tdiv x4 (36 : Int))) (4 : Int)))) 20 (.ptr p12 o13)) 21 (.int .i64 x14)) 22 (.int .i64 x4)) 23 (.int .i64 (w64 (Int.tdiv x4 (144 : Int))))) 24 (.int .i64 (Int.tmod (w64 (Int.tdiv x4 (144 : Int))) (5 : Int)))) 25 (.bool false)) 26 (.int .i64 x4)) 27 (.int .i64 (w64 (Int.tdiv x4 (720 : Int))))) 28 (.int .i64 (Int.tmod (w64 (Int.tdiv x4 (720 : Int))) (2 : Int)))) 29 (.bool false)) 30 (.agg [(.int .i64 (w64 ((1 : Int) + (Int.tmod x4 (9 : Int))))), (.int .i64 (10 : Int)), (.int .i64 x9), (.int .i64 x14), (.bool false), (.bool false)])) 4 (.ptr p69 0)) 31 (.int .i64 x4)) 32 (.int .i64 (w64 (Int.tdiv x4 (1440 : Int))))) 33 (.int .i64 (Int.tmod (w64 (Int.tdiv x4 (1440 : Int))) (4 : Int)))) 34 (.bool false)) 36 (.agg [(.int .i64 x80), (.int .i64 x81), (.int .i64 x82), (.int .i64 x83), (.bool b84), (.bool b85)])), [], h86⟩)))))))))))))))))))))) := by kernel_rfl

/- cheesepress/cheesepresskit.Mod -/
def b7 : Code :=
 (.seq
  (.region 0 ⟨[O1 (some 4) 3 (.assign (ci 0))]⟩ false)
  (.seq
   (.seq
    (.region 1 ⟨[O1 (some 5) 3 (.move (t 1)),
      O1 (some 6) 4 (.binOp .lss 3 (t 5) (ci 1) 3)]⟩ false)
    (.cond (t 6)
     (.seq
      (.region 2 ⟨[O1 (some 4) 3 (.assign (ci 0))]⟩ false)
      .ret)
     .skip))
   (.seq
    (.region 3 ⟨[O1 (some 7) 3 (.move (t 0)),
      O1 (some 8) 3 (.move (t 1)),
      O1 (some 9) 3 (.binOp .rem 3 (t 7) (t 8) 3),
      O1 (some 0) 3 (.assign (t 9))]⟩ false)
    (.seq
     (.seq
      (.region 4 ⟨[O1 (some 10) 3 (.move (t 0)),
        O1 (some 11) 4 (.binOp .lss 3 (t 10) (ci 0) 3)]⟩ false)
      (.cond (t 11)
       (.region 5 ⟨[O1 (some 12) 3 (.move (t 0)),
         O1 (some 13) 3 (.move (t 1)),
         O1 (some 14) 3 (.binOp .add 3 (t 12) (t 13) 3),
         O1 (some 0) 3 (.assign (t 14))]⟩ false)
       .skip))
     (.seq
      (.region 6 ⟨[O1 (some 15) 3 (.move (t 0)),
        O1 (some 4) 3 (.assign (t 15))]⟩ false)
      .ret)))))
theorem fn7 : (ctx.fn.get 7).map slimF = some ⟨16, [.tmp 4], b7⟩ := by kernel_rfl
theorem vb7 (a0 : Int) (a1 : Int) (h : H) (Q : V → H → Prop) : wpC Try.prog ctx false b7 ⟨16, setArgs [(.int .i64 a0), (.int .i64 a1)] 0 (Tb.leaf undefV), [], h⟩ (endW ctx ⟨16, [.tmp 4], b7⟩ Q) = (((a1 < (1 : Int) → Q (.int .i64 (0 : Int)) h) ∧ (¬(a1 < (1 : Int)) → (a1 ≠ 0 ∧ (((Int.tmod a0 a1) < (0 : Int) → Q (.int .i64 (w64 ((Int.tmod a0 a1) + a1))) h) ∧ (¬((Int.tmod a0 a1) < (0 : Int)) → Q (.int .i64 (Int.tmod a0 a1)) h)))))) := by kernel_rfl

/- cheesepress/jobs.Of -/
def l8_0 : Code :=
 (.seq
  (.region 5 ⟨[O1 (some 17) 0 (.binOp .lss 3 (t 16) (ci 3) 3)]⟩ false)
  (.seq
   (.cond (t 17)
    .skip
    (.exit 0))
   (.seq
    (.block 1
     (.seq
      (.region 6 ⟨[O1 (some 18) 49 (.index 52 (t 15) (t 16)),
        O1 (some 8) 49 (.assign (t 18))]⟩ false)
      (.seq
       (.region 7 ⟨[O1 (some 19) 49 (.move (t 8)),
         O1 (some 20) 22 (.move (t 1)),
         O1 (some 21) 28 (.call ⟨(.value (t 19)), #[(t 20)], #[51]⟩),
         O1 (some 9) 28 (.assign (t 21))]⟩ false)
       (.seq
        (.region 8 ⟨[O1 (some 22) 28 (.move (t 9)),
          O1 (some 23) 4 (.binOp .neq 28 (t 22) (ci 0) 28)]⟩ false)
        (.cond (t 23)
         (.seq
          (.region 9 ⟨[O1 (some 24) 28 (.move (t 9)),
            O1 (some 4) 27 (.assign (.const (.slice none 0 0))),
            O1 (some 5) 28 (.assign (t 24))]⟩ false)
          .ret)
         .skip)))))
    (.region 10 ⟨[O1 (some 25) 3 (.binOp .add 3 (t 16) (ci 1) 3),
      O1 (some 16) 3 (.move (t 25))]⟩ false))))
def r8_1 : Code :=
 (.seq
  (.region 11 ⟨[O1 (some 26) 24 (.load 24 (t 2)),
    O1 (some 27) 22 (.move (t 1)),
    O1 (some 28) 27 (.call ⟨(.value (.func 27)), #[(t 26), (t 27)], #[24, 22]⟩),
    O1 (some 4) 27 (.assign (t 28)),
    O1 (some 5) 28 (.assign (ci 0))]⟩ false)
  .ret)
def b8 : Code :=
 (.seq
  (.region 0 ⟨[O1 (some 2) 0 (.box 24 (t 0)),
    O1 (some 4) 27 (.assign (.const (.slice none 0 0))),
    O1 (some 5) 28 (.assign (ci 0))]⟩ false)
  (.seq
   (.seq
    (.region 1 ⟨[O1 (some 10) 24 (.load 24 (t 2)),
      O1 (some 11) 28 (.call ⟨(.value (.func 23)), #[(t 10)], #[24]⟩),
      O1 (some 6) 28 (.assign (t 11))]⟩ false)
    (.seq
     (.region 2 ⟨[O1 (some 12) 28 (.move (t 6)),
       O1 (some 13) 4 (.binOp .neq 28 (t 12) (ci 0) 28)]⟩ false)
     (.cond (t 13)
      (.seq
       (.region 3 ⟨[O1 (some 14) 28 (.move (t 6)),
         O1 (some 4) 27 (.assign (.const (.slice none 0 0))),
         O1 (some 5) 28 (.assign (t 14))]⟩ false)
       .ret)
      .skip)))
   (.seq
    (.seq
     (.region 4 ⟨[O1 (some 15) 52 (.build 52 #[(0, (.func 24)), (1, (.func 25)), (2, (.func 26))]),
       O1 (some 16) 3 (.move (ci 0))]⟩ false)
     (.block 0
      (.loop l8_0)))
    r8_1)))
theorem fn8 : (ctx.fn.get 8).map slimF = some ⟨29, [.tmp 4, .tmp 5], b8⟩ := by kernel_rfl
theorem vl8_0 (tm : Tm) (y16 : Int) (y15_0 : V) (y15_1 : V) (y15_2 : V) (y1 : V) (d : List AD) (h : H) (Q : AX → St → Prop) : wpC Try.prog ctx false l8_0 ⟨29, (Tb.set (Tb.set (Tb.set tm 16 (.int .i64 y16)) 15 (.agg [y15_0, y15_1, y15_2])) 1 y1), d, h⟩ (sealQ [4, 5, 16, 15, 1, 2] Q) = (((y16 < (3 : Int) → ∃ (v0 : V), aindex ctx 52 (.agg [y15_0, y15_1, y15_2]) (.int .i64 y16) = some v0 ∧ wpCallV ctx Try.prog 28 h (fun v1 h2 => wpBin ctx .neq 28 (t 22) (ci 0) 4 v1 (.int .i64 (0 : Int)) (fun v3 => wpPick v3 (fun t => match t with | true => (∀ tm', getV tm' 4 = .nilslice → getV tm' 5 = v1 → getV tm' 16 = (.int .i64 y16) → getV tm' 15 = (.agg [y15_0, y15_1, y15_2]) → getV tm' 1 = y1 → getV tm' 2 = getV tm 2 → Q .ret ⟨29, tm', d, h2⟩) | false => (∀ tm', getV tm' 4 = getV tm 4 → getV tm' 5 = getV tm 5 → getV tm' 16 = (.int .i64 (w64 (y16 + (1 : Int)))) → getV tm' 15 = (.agg [y15_0, y15_1, y15_2]) → getV tm' 1 = y1 → getV tm' 2 = getV tm 2 → Q .normal ⟨29, tm', d, h2⟩)))) [y1] v0) ∧ (¬(y16 < (3 : Int)) → (∀ tm', getV tm' 4 = getV tm 4 → getV tm' 5 = getV tm 5 → getV tm' 16 = (.int .i64 y16) → getV tm' 15 = (.agg [y15_0, y15_1, y15_2]) → getV tm' 1 = y1 → getV tm' 2 = getV tm 2 → Q (.exit 0) ⟨29, tm', d, h⟩)))) := by kernel_rfl
theorem vr8_1 (tm : Tm) (y2 : V) (y1 : V) (d : List AD) (h : H) (Q : AX → St → Prop) : wpC Try.prog ctx false r8_1 ⟨29, (Tb.set (Tb.set tm 2 y2) 1 y1), d, h⟩ (sealQ [4, 5, 16, 15, 1, 2] Q) = (∃ (x0 : Int) (x1 : Int) (x2 : Int) (x3 : Int) (b4 : Bool) (b5 : Bool), ald ctx 24 h y2 = some (.agg [(.int .i64 x0), (.int .i64 x1), (.int .i64 x2), (.int .i64 x3), (.bool b4), (.bool b5)]) ∧ RF Try.prog ctx 27 [(.agg [(.int .i64 x0), (.int .i64 x1), (.int .i64 x2), (.int .i64 x3), (.bool b4), (.bool b5)]), y1] h (fun v6 h7 => ∃ (v8 : V), v6 = v8 ∧ (∀ tm', getV tm' 4 = v8 → getV tm' 5 = (.int .i64 (0 : Int)) → getV tm' 16 = getV tm 16 → getV tm' 15 = getV tm 15 → getV tm' 1 = y1 → getV tm' 2 = y2 → Q .ret ⟨29, tm', d, h7⟩))) := by kernel_rfl
theorem vb8 (a0_0 : Int) (a0_1 : Int) (a0_2 : Int) (a0_3 : Int) (a0_4 : Bool) (a0_5 : Bool) (a1 : V) (h : H) (Q : V → H → Prop) : wpC Try.prog ctx false b8 ⟨29, setArgs [(.agg [(.int .i64 a0_0), (.int .i64 a0_1), (.int .i64 a0_2), (.int .i64 a0_3), (.bool a0_4), (.bool a0_5)]), a1] 0 (Tb.leaf undefV), [], h⟩ (endW ctx ⟨29, [.tmp 4, .tmp 5], b8⟩ Q) = ((h.next < T.top ∧ ∀ p0 h1, p0 = h.next → h1 = h.new (.cells (.ls [(.int .i64 a0_0), (.int .i64 a0_1), (.int .i64 a0_2), (.int .i64 a0_3), (.bool a0_4), (.bool a0_5)]) ⟨0, 25, 0⟩ true false) → ∃ (x2 : Int) (x3 : Int) (x4 : Int) (x5 : Int) (b6 : Bool) (b7 : Bool), ald ctx 24 h1 (.ptr p0 0) = some (.agg [(.int .i64 x2), (.int .i64 x3), (.int .i64 x4), (.int .i64 x5), (.bool b6), (.bool b7)]) ∧ RF Try.prog ctx 23 [(.agg [(.int .i64 x2), (.int .i64 x3), (.int .i64 x4), (.int .i64 x5), (.bool b6), (.bool b7)])] h1 (fun v8 h9 => ∃ (x10 : Int), v8 = (.int .i64 x10) ∧ ((x10 ≠ (0 : Int) → Q (.tuple [.nilslice, (.int .i64 x10)]) h9) ∧ (¬(x10 ≠ (0 : Int)) → wpC Try.prog ctx false (.loop l8_0) ⟨29, (Tb.set (Tb.set (Tb.set (Tb.set (Tb.set (Tb.set (Tb.set (Tb.set (Tb.set (Tb.set (Tb.set (Tb.set (Tb.leaf undefV) 0 (.agg [(.int .i64 a0_0), (.int .i64 a0_1), (.int .i64 a0_2), (.int .i64 a0_3), (.bool a0_4), (.bool a0_5)])) 1 a1) 2 (.ptr p0 0)) 4 .nilslice) 5 (.int .i64 (0 : Int))) 10 (.agg [(.int .i64 x2), (.int .i64 x3), (.int .i64 x4), (.int .i64 x5), (.bool b6), (.bool b7)])) 11 (.int .i64 x10)) 6 (.int .i64 x10)) 12 (.int .i64 x10)) 13 (.bool false)) 15 (.agg [(.func (.func 24) [] []), (.func (.func 25) [] []), (.func (.func 26) [] [])])) 16 (.int .i64 (0 : Int))), [], h9⟩ (fun e s1 => (thenC (fun s1 => wpC Try.prog ctx false r8_1 s1 (endW ctx ⟨29, [.tmp 4, .tmp 5], b8⟩ Q)) (endW ctx ⟨29, [.tmp 4, .tmp 5], b8⟩ Q)) (exitB 0 e) s1)))))) := by kernel_rfl

/- cheesepress/jobs.Check -/
def b9 : Code :=
 (.seq
  (.region 0 ⟨[O1 (some 2) 0 (.box 24 (t 0)),
    O1 (some 4) 28 (.assign (ci 0))]⟩ false)
  (.seq
   (.region 1 #[⟨(some 8), .load 24 (t 2), 24, "jobs.go:99", #[], none⟩,
     ⟨(some 9), .move (t 1), 27, "jobs.go:99", #[], none⟩,
     ⟨(some 10), .move (t 1), 27, "jobs.go:99", #[], none⟩,
     ⟨(some 11), .call ⟨(.builtin .len), #[(t 10)], #[27]⟩, 3, "jobs.go:99", #[⟨2, .data⟩], none⟩,
     ⟨(some 12), .call ⟨(.builtin .min), #[(t 11), (ci 4097)], #[3, 3]⟩, 3, "jobs.go:99", #[⟨3, .data⟩], none⟩,
     ⟨(some 13), .slice 27 (t 9) none (some (t 12)) none, 27, "jobs.go:99", #[⟨1, .data⟩, ⟨4, .data⟩], none⟩,
     ⟨(some 14), .call ⟨(.value (.func 28)), #[(t 13), (.func 29)], #[27, 55]⟩, 22, "jobs.go:99", #[⟨5, .data⟩], none⟩,
     ⟨(some 15), .call ⟨(.value (.func 8)), #[(t 8), (t 14)], #[24, 22]⟩, 29, "jobs.go:99", #[⟨0, .data⟩, ⟨6, .data⟩, ⟨6, .chain⟩], none⟩,
     ⟨(some 7), .move (t 15), 29, "jobs.go:99", #[⟨7, .data⟩], none⟩,
     ⟨(some 16), .extract (t 7) 0, 27, "jobs.go:99", #[⟨8, .data⟩], none⟩,
     ⟨(some 17), .extract (t 7) 1, 28, "jobs.go:99", #[⟨8, .data⟩, ⟨11, .gcOnly .lateStores⟩], none⟩,
     ⟨(some 5), .assign (t 16), 27, "jobs.go:99", #[⟨9, .data⟩, ⟨7, .chain⟩, ⟨0, .phase⟩, ⟨1, .phase⟩, ⟨2, .phase⟩, ⟨3, .phase⟩, ⟨4, .phase⟩, ⟨5, .phase⟩, ⟨6, .phase⟩, ⟨7, .phase⟩, ⟨8, .phase⟩, ⟨9, .phase⟩, ⟨10, .textOnly .lateStores⟩], none⟩,
     ⟨(some 6), .assign (t 17), 28, "jobs.go:99", #[⟨10, .data⟩, ⟨11, .chain⟩, ⟨0, .phase⟩, ⟨1, .phase⟩, ⟨2, .phase⟩, ⟨3, .phase⟩, ⟨4, .phase⟩, ⟨5, .phase⟩, ⟨6, .phase⟩, ⟨7, .phase⟩, ⟨8, .phase⟩, ⟨9, .phase⟩, ⟨10, .phase⟩, ⟨11, .phase⟩], none⟩] true)
   (.seq
    (.seq
     (.region 2 ⟨[O1 (some 18) 28 (.move (t 6)),
       O1 (some 19) 4 (.binOp .eql 28 (t 18) (ci 0) 28),
       O1 (some 20) 4 (.move (t 19)),
       O2 (some 21) 27 (.move (t 1)) (2, true),
       O2 (some 22) 27 (.move (t 5)) (2, true),
       O2 (some 23) 4 (.call ⟨(.value (.func 30)), #[(t 21), (t 22)], #[27, 27]⟩) (2, true),
       O2 (some 24) 4 (.unOp .not 4 (t 23)) (2, true),
       O1 (some 25) 4 (.pick (t 20) (t 24) (.const (.bool false)))]⟩ false)
     (.cond (t 25)
      (.region 3 ⟨[O1 (some 6) 28 (.assign (ci 3))]⟩ false)
      .skip))
    (.seq
     (.region 4 ⟨[O1 (some 26) 28 (.move (t 6)),
       O1 (some 4) 28 (.assign (t 26))]⟩ false)
     .ret))))
theorem fn9 : (ctx.fn.get 9).map slimF = some ⟨27, [.tmp 4], b9⟩ := by kernel_rfl
theorem vb9 (a0_0 : Int) (a0_1 : Int) (a0_2 : Int) (a0_3 : Int) (a0_4 : Bool) (a0_5 : Bool) (a1 : V) (h : H) (Q : V → H → Prop) : wpC Try.prog ctx false b9 ⟨27, setArgs [(.agg [(.int .i64 a0_0), (.int .i64 a0_1), (.int .i64 a0_2), (.int .i64 a0_3), (.bool a0_4), (.bool a0_5)]), a1] 0 (Tb.leaf undefV), [], h⟩ (endW ctx ⟨27, [.tmp 4], b9⟩ Q) = ((h.next < T.top ∧ ∀ p0 h1, p0 = h.next → h1 = h.new (.cells (.ls [(.int .i64 a0_0), (.int .i64 a0_1), (.int .i64 a0_2), (.int .i64 a0_3), (.bool a0_4), (.bool a0_5)]) ⟨0, 25, 0⟩ true false) → ((h1.next ≤ T.top ∧ h1.low ≤ T.top) ∧ ∃ (x2 : Int) (x3 : Int) (x4 : Int) (x5 : Int) (b6 : Bool) (b7 : Bool), ald ctx 24 h1 (.ptr p0 0) = some (.agg [(.int .i64 x2), (.int .i64 x3), (.int .i64 x4), (.int .i64 x5), (.bool b6), (.bool b7)]) ∧ ∃ (x8 : Int), alen ctx 27 h1 a1 = some (.int .i64 x8) ∧ ∃ (v9 : V), aslice ctx 27 h1 a1 none (some (.int .i64 (min x8 (4097 : Int)))) none = some v9 ∧ RF Try.prog ctx 28 [v9, (.func (.func 29) [] [])] (topH h1) (fun v10 h11 => ∃ (v12 : V), v10 = v12 ∧ ((h1.next ≤ h11.low ∧ h11.next ≤ T.top) ∧ ∀ h13, h13 = lowM h1 h11 → RF Try.prog ctx 8 [(.agg [(.int .i64 x2), (.int .i64 x3), (.int .i64 x4), (.int .i64 x5), (.bool b6), (.bool b7)]), v12] (topH h13) (fun v14 h15 => ∃ (v16 : V) (x17 : Int), v14 = (.tuple [v16, (.int .i64 x17)]) ∧ ((h13.next ≤ h15.low ∧ h15.next ≤ T.top) ∧ ∀ h18, h18 = lowM h13 h15 → ((x17 = (0 : Int) → RF Try.prog ctx 30 [a1, v16] h18 (fun v19 h20 => ∃ (b21 : Bool), v19 = (.bool b21) ∧ ((b21 = true → Q (.int .i64 x17) h20) ∧ (b21 = false → Q (.int .i64 (3 : Int)) h20)))) ∧ (¬(x17 = (0 : Int)) → Q (.int .i64 x17) h18))))))))) := by kernel_rfl

/- cheesepress/cheesepresskit.OwnInts -/
def b11 : Code :=
 (.seq
  (.region 0 ⟨[O1 (some 2) 22 (.assign (.const (.slice none 0 0)))]⟩ false)
  (.seq
   (.region 1 ⟨[O1 (some 3) 22 (.buildSlice 22 0 #[]),
     O1 (some 4) 22 (.move (t 0)),
     O1 (some 5) 22 (.call ⟨(.builtin .append), #[(t 3), (t 4)], #[22, 22]⟩),
     O1 (some 2) 22 (.assign (t 5))]⟩ false)
   .ret))
theorem fn11 : (ctx.fn.get 11).map slimF = some ⟨6, [.tmp 2], b11⟩ := by kernel_rfl
theorem vb11 (a0 : V) (h : H) (Q : V → H → Prop) : wpC Try.prog ctx false b11 ⟨6, setArgs [a0] 0 (Tb.leaf undefV), [], h⟩ (endW ctx ⟨6, [.tmp 2], b11⟩ Q) = (∃ v0 h1, abuildSlice ctx 22 0 [] h = some (v0, h1) ∧ (True ∧ ∃ v2 h3, aappend ctx 22 h1 v0 a0 = some (v2, h3) ∧ Q v2 h3)) := by kernel_rfl

/- cheesepress/cheesepressref36.Of -/
def l12_0 : Code :=
 (.seq
  (.seq
   (.region 7 ⟨[O1 (some 22) 3 (.move (t 7)),
     O1 (some 23) 22 (.move (t 1)),
     O1 (some 24) 3 (.call ⟨(.builtin .len), #[(t 23)], #[22]⟩),
     O1 (some 25) 4 (.binOp .lss 3 (t 22) (t 24) 3)]⟩ false)
   (.cond (t 25)
    .skip
    (.exit 0)))
  (.seq
   (.block 1
    (.seq
     (.region 9 ⟨[O1 (some 28) 22 (.move (t 1)),
       O1 (some 29) 3 (.move (t 7)),
       O1 (some 30) 0 (.indexAddr 22 (t 28) (t 29)),
       O1 (some 31) 3 (.load 3 (t 30)),
       O1 (some 32) 4 (.binOp .lss 3 (t 31) (ci 0) 3),
       O1 (some 33) 4 (.move (t 32)),
       O2 (some 34) 22 (.move (t 1)) (5, false),
       O2 (some 35) 3 (.move (t 7)) (5, false),
       O2 (some 36) 0 (.indexAddr 22 (t 34) (t 35)) (5, false),
       O2 (some 37) 3 (.load 3 (t 36)) (5, false),
       O2 (some 38) 4 (.binOp .gtr 3 (t 37) (ci 1048576) 3) (5, false),
       O1 (some 39) 4 (.pick (t 33) (.const (.bool true)) (t 38))]⟩ false)
     (.cond (t 39)
      (.seq
       (.region 10 ⟨[O1 (some 4) 27 (.assign (.const (.slice none 0 0))),
         O1 (some 5) 28 (.assign (ci 2))]⟩ false)
       .ret)
      .skip)))
   (.region 8 ⟨[O1 (some 26) 3 (.move (t 7)),
     O1 (some 27) 3 (.binOp .add 3 (t 26) (ci 1) 3),
     O1 (some 7) 3 (.assign (t 27))]⟩ false)))
def l12_1 : Code :=
 (.seq
  (.seq
   (.region 12 ⟨[O1 (some 40) 3 (.move (t 8)),
     O1 (some 41) 22 (.move (t 1)),
     O1 (some 42) 3 (.call ⟨(.builtin .len), #[(t 41)], #[22]⟩),
     O1 (some 43) 4 (.binOp .lss 3 (t 40) (t 42) 3)]⟩ false)
   (.cond (t 43)
    .skip
    (.exit 2)))
  (.seq
   (.block 3
    (.seq
     (.region 14 #[⟨(some 46), .move (t 1), 22, "ref.go:46", #[], none⟩,
       ⟨(some 47), .move (t 8), 3, "ref.go:46", #[], none⟩,
       ⟨(some 48), .indexAddr 22 (t 46) (t 47), 0, "ref.go:46", #[⟨0, .data⟩, ⟨1, .data⟩], none⟩,
       ⟨(some 49), .load 3 (t 48), 3, "ref.go:46", #[⟨2, .data⟩], none⟩,
       ⟨(some 50), .move (t 1), 22, "ref.go:46", #[], none⟩,
       ⟨(some 51), .move (t 8), 3, "ref.go:46", #[], none⟩,
       ⟨(some 52), .binOp .sub 3 (t 51) (ci 1) 3, 3, "ref.go:46", #[⟨5, .data⟩], none⟩,
       ⟨(some 53), .indexAddr 22 (t 50) (t 52), 0, "ref.go:46", #[⟨4, .data⟩, ⟨6, .data⟩], none⟩,
       ⟨(some 54), .load 3 (t 53), 3, "ref.go:46", #[⟨7, .data⟩], none⟩,
       ⟨(some 55), .binOp .lss 3 (t 49) (t 54) 3, 4, "ref.go:46", #[⟨3, .data⟩, ⟨8, .data⟩], none⟩] true)
     (.cond (t 55)
      (.seq
       (.region 15 ⟨[O1 (some 4) 27 (.assign (.const (.slice none 0 0))),
         O1 (some 5) 28 (.assign (ci 9))]⟩ false)
       .ret)
      .skip)))
   (.region 13 ⟨[O1 (some 44) 3 (.move (t 8)),
     O1 (some 45) 3 (.binOp .add 3 (t 44) (ci 1) 3),
     O1 (some 8) 3 (.assign (t 45))]⟩ false)))
def r12_2 : Code :=
 (.seq
  (.region 16 ⟨[O1 (some 56) 24 (.load 24 (t 2)),
    O1 (some 57) 22 (.move (t 1)),
    O1 (some 58) 27 (.call ⟨(.value (.func 33)), #[(t 56), (t 57)], #[24, 22]⟩),
    O1 (some 4) 27 (.assign (t 58)),
    O1 (some 5) 28 (.assign (ci 0))]⟩ false)
  .ret)
def r12_3 : Code :=
 (.seq
  (.seq
   (.region 11 ⟨[O1 (some 8) 3 (.assign (ci 1))]⟩ false)
   (.block 2
    (.loop l12_1)))
  r12_2)
def b12 : Code :=
 (.seq
  (.region 0 ⟨[O1 (some 2) 0 (.box 24 (t 0)),
    O1 (some 4) 27 (.assign (.const (.slice none 0 0))),
    O1 (some 5) 28 (.assign (ci 0))]⟩ false)
  (.seq
   (.seq
    (.region 1 ⟨[O1 (some 9) 24 (.load 24 (t 2)),
      O1 (some 10) 28 (.call ⟨(.value (.func 32)), #[(t 9)], #[24]⟩),
      O1 (some 6) 28 (.assign (t 10))]⟩ false)
    (.seq
     (.region 2 ⟨[O1 (some 11) 28 (.move (t 6)),
       O1 (some 12) 4 (.binOp .neq 28 (t 11) (ci 0) 28)]⟩ false)
     (.cond (t 12)
      (.seq
       (.region 3 ⟨[O1 (some 13) 28 (.move (t 6)),
         O1 (some 4) 27 (.assign (.const (.slice none 0 0))),
         O1 (some 5) 28 (.assign (t 13))]⟩ false)
       .ret)
      .skip)))
   (.seq
    (.seq
     (.region 4 ⟨[O1 (some 14) 22 (.move (t 1)),
       O1 (some 15) 3 (.call ⟨(.builtin .len), #[(t 14)], #[22]⟩),
       O1 (some 16) 4 (.binOp .eql 3 (t 15) (ci 0) 3),
       O1 (some 17) 4 (.move (t 16)),
       O2 (some 18) 22 (.move (t 1)) (3, false),
       O2 (some 19) 3 (.call ⟨(.builtin .len), #[(t 18)], #[22]⟩) (3, false),
       O2 (some 20) 4 (.binOp .gtr 3 (t 19) (ci 4096) 3) (3, false),
       O1 (some 21) 4 (.pick (t 17) (.const (.bool true)) (t 20))]⟩ false)
     (.cond (t 21)
      (.seq
       (.region 5 ⟨[O1 (some 4) 27 (.assign (.const (.slice none 0 0))),
         O1 (some 5) 28 (.assign (ci 6))]⟩ false)
       .ret)
      .skip))
    (.seq
     (.seq
      (.region 6 ⟨[O1 (some 7) 3 (.assign (ci 0))]⟩ false)
      (.block 0
       (.loop l12_0)))
     r12_3))))
theorem fn12 : (ctx.fn.get 12).map slimF = some ⟨59, [.tmp 4, .tmp 5], b12⟩ := by kernel_rfl
theorem vl12_0 (tm : Tm) (y7 : Int) (y1 : V) (d : List AD) (h : H) (Q : AX → St → Prop) : wpC Try.prog ctx false l12_0 ⟨59, (Tb.set (Tb.set tm 7 (.int .i64 y7)) 1 y1), d, h⟩ (sealQ [4, 5, 7, 1, 8, 2] Q) = (∃ (x0 : Int), alen ctx 22 h y1 = some (.int .i64 x0) ∧ ((y7 < x0 → ∃ p1 o2, aidx ctx 22 y1 (.int .i64 y7) = some (.ptr p1 o2) ∧ ∃ (x3 : Int), ald ctx 3 h (.ptr p1 o2) = some (.int .i64 x3) ∧ ((x3 < (0 : Int) → (∀ tm', getV tm' 4 = .nilslice → getV tm' 5 = (.int .i64 (2 : Int)) → getV tm' 7 = (.int .i64 y7) → getV tm' 1 = y1 → getV tm' 8 = getV tm 8 → getV tm' 2 = getV tm 2 → Q .ret ⟨59, tm', d, h⟩)) ∧ (¬(x3 < (0 : Int)) → ∃ p4 o5, aidx ctx 22 y1 (.int .i64 y7) = some (.ptr p4 o5) ∧ ∃ (x6 : Int), ald ctx 3 h (.ptr p4 o5) = some (.int .i64 x6) ∧ (((1048576 : Int) < x6 → (∀ tm', getV tm' 4 = .nilslice → getV tm' 5 = (.int .i64 (2 : Int)) → getV tm' 7 = (.int .i64 y7) → getV tm' 1 = y1 → getV tm' 8 = getV tm 8 → getV tm' 2 = getV tm 2 → Q .ret ⟨59, tm', d, h⟩)) ∧ (¬((1048576 : Int) < x6) → (∀ tm', getV tm' 4 = getV tm 4 → getV tm' 5 = getV tm 5 → getV tm' 7 = (.int .i64 (w64 (y7 + (1 : Int)))) → getV tm' 1 = y1 → getV tm' 8 = getV tm 8 → getV tm' 2 = getV tm 2 → Q .normal ⟨59, tm', d, h⟩)))))) ∧ (¬(y7 < x0) → (∀ tm', getV tm' 4 = getV tm 4 → getV tm' 5 = getV tm 5 → getV tm' 7 = (.int .i64 y7) → getV tm' 1 = y1 → getV tm' 8 = getV tm 8 → getV tm' 2 = getV tm 2 → Q (.exit 0) ⟨59, tm', d, h⟩)))) := by kernel_rfl
theorem vl12_1 (tm : Tm) (y8 : Int) (y1 : V) (d : List AD) (h : H) (Q : AX → St → Prop) : wpC Try.prog ctx false l12_1 ⟨59, (Tb.set (Tb.set tm 8 (.int .i64 y8)) 1 y1), d, h⟩ (sealQ [4, 5, 7, 1, 8, 2] Q) = (∃ (x0 : Int), alen ctx 22 h y1 = some (.int .i64 x0) ∧ ((y8 < x0 → ((h.next ≤ T.top ∧ h.low ≤ T.top) ∧ ∃ p1 o2, aidx ctx 22 y1 (.int .i64 y8) = some (.ptr p1 o2) ∧ ∃ (x3 : Int), ald ctx 3 h (.ptr p1 o2) = some (.int .i64 x3) ∧ ∃ p4 o5, aidx ctx 22 y1 (.int .i64 (w64 (y8 - (1 : Int)))) = some (.ptr p4 o5) ∧ ∃ (x6 : Int), ald ctx 3 h (.ptr p4 o5) = some (.int .i64 x6) ∧ ((x3 < x6 → (∀ tm', getV tm' 4 = .nilslice → getV tm' 5 = (.int .i64 (9 : Int)) → getV tm' 7 = getV tm 7 → getV tm' 1 = y1 → getV tm' 8 = (.int .i64 y8) → getV tm' 2 = getV tm 2 → Q .ret ⟨59, tm', d, h⟩)) ∧ (¬(x3 < x6) → (∀ tm', getV tm' 4 = getV tm 4 → getV tm' 5 = getV tm 5 → getV tm' 7 = getV tm 7 → getV tm' 1 = y1 → getV tm' 8 = (.int .i64 (w64 (y8 + (1 : Int)))) → getV tm' 2 = getV tm 2 → Q .normal ⟨59, tm', d, h⟩))))) ∧ (¬(y8 < x0) → (∀ tm', getV tm' 4 = getV tm 4 → getV tm' 5 = getV tm 5 → getV tm' 7 = getV tm 7 → getV tm' 1 = y1 → getV tm' 8 = (.int .i64 y8) → getV tm' 2 = getV tm 2 → Q (.exit 2) ⟨59, tm', d, h⟩)))) := by kernel_rfl
theorem vr12_2 (tm : Tm) (y2 : V) (y1 : V) (d : List AD) (h : H) (Q : AX → St → Prop) : wpC Try.prog ctx false r12_2 ⟨59, (Tb.set (Tb.set tm 2 y2) 1 y1), d, h⟩ (sealQ [4, 5, 7, 1, 8, 2] Q) = (∃ (x0 : Int) (x1 : Int) (x2 : Int) (x3 : Int) (b4 : Bool) (b5 : Bool), ald ctx 24 h y2 = some (.agg [(.int .i64 x0), (.int .i64 x1), (.int .i64 x2), (.int .i64 x3), (.bool b4), (.bool b5)]) ∧ RF Try.prog ctx 33 [(.agg [(.int .i64 x0), (.int .i64 x1), (.int .i64 x2), (.int .i64 x3), (.bool b4), (.bool b5)]), y1] h (fun v6 h7 => ∃ (v8 : V), v6 = v8 ∧ (∀ tm', getV tm' 4 = v8 → getV tm' 5 = (.int .i64 (0 : Int)) → getV tm' 7 = getV tm 7 → getV tm' 1 = y1 → getV tm' 8 = getV tm 8 → getV tm' 2 = y2 → Q .ret ⟨59, tm', d, h7⟩))) := by kernel_rfl
theorem vr12_3 (tm : Tm)  (d : List AD) (h : H) (Q : AX → St → Prop) : wpC Try.prog ctx false r12_3 ⟨59, tm, d, h⟩ (sealQ [4, 5, 7, 1, 8, 2] Q) = (wpC Try.prog ctx false (.loop l12_1) ⟨59, (Tb.set tm 8 (.int .i64 (1 : Int))), d, h⟩ (fun e s1 => (thenC (fun s1 => wpC Try.prog ctx false r12_2 s1 (sealQ [4, 5, 7, 1, 8, 2] Q)) (sealQ [4, 5, 7, 1, 8, 2] Q)) (exitB 2 e) s1)) := by kernel_rfl
theorem vb12 (a0_0 : Int) (a0_1 : Int) (a0_2 : Int) (a0_3 : Int) (a0_4 : Bool) (a0_5 : Bool) (a1 : V) (h : H) (Q : V → H → Prop) : wpC Try.prog ctx false b12 ⟨59, setArgs [(.agg [(.int .i64 a0_0), (.int .i64 a0_1), (.int .i64 a0_2), (.int .i64 a0_3), (.bool a0_4), (.bool a0_5)]), a1] 0 (Tb.leaf undefV), [], h⟩ (endW ctx ⟨59, [.tmp 4, .tmp 5], b12⟩ Q) = ((h.next < T.top ∧ ∀ p0 h1, p0 = h.next → h1 = h.new (.cells (.ls [(.int .i64 a0_0), (.int .i64 a0_1), (.int .i64 a0_2), (.int .i64 a0_3), (.bool a0_4), (.bool a0_5)]) ⟨0, 25, 0⟩ true false) → ∃ (x2 : Int) (x3 : Int) (x4 : Int) (x5 : Int) (b6 : Bool) (b7 : Bool), ald ctx 24 h1 (.ptr p0 0) = some (.agg [(.int .i64 x2), (.int .i64 x3), (.int .i64 x4), (.int .i64 x5), (.bool b6), (.bool b7)]) ∧ RF Try.prog ctx 32 [(.agg [(.int .i64 x2), (.int .i64 x3), (.int .i64 x4), (.int .i64 x5), (.bool b6), (.bool b7)])] h1 (fun v8 h9 => ∃ (x10 : Int), v8 = (.int .i64 x10) ∧ ((x10 ≠ (0 : Int) → Q (.tuple [.nilslice, (.int .i64 x10)]) h9) ∧ (¬(x10 ≠ (0 : Int)) → ∃ (x11 : Int), alen ctx 22 h9 a1 = some (.int .i64 x11) ∧ ((x11 = (0 : Int) → Q (.tuple [.nilslice, (.int .i64 (6 : Int))]) h9) ∧ (¬(x11 = (0 : Int)) → ∃ (x12 : Int), alen ctx 22 h9 a1 = some (.int .i64 x12) ∧ (((4096 : Int) < x12 → Q (.tuple [.nilslice, (.int .i64 (6 : Int))]) h9) ∧ (¬((4096 : Int) < x12) → wpC Try.prog ctx false (.loop l12_0) ⟨59, (Tb.set (Tb.set (Tb.set (Tb.set (Tb.set (Tb.set (Tb.set (Tb.set (Tb.set (Tb.set (Tb.set (Tb.set (Tb.set (Tb.set (Tb.set (Tb.set (Tb.set (Tb.set (Tb.set (Tb.leaf undefV) 0 (.agg [(.int .i64 a0_0), (.int .i64 a0_1), (.int .i64 a0_2), (.int .i64 a0_3), (.bool a0_4), (.bool a0_5)])) 1 a1) 2 (.ptr p0 0)) 4 .nilslice) 5 (.int .i64 (0 : Int))) 9 (.agg [(.int .i64 x2), (.int .i64 x3), (.int .i64 x4), (.int .i64 x5), (.bool b6), (.bool b7)])) 10 (.int .i64 x10)) 6 (.int .i64 x10)) 11 (.int .i64 x10)) 12 (.bool false)) 14 a1) 15 (.int .i64 x11)) 16 (.bool false)) 17 (.bool false)) 18 a1) 19 (.int .i64 x12)) 20 (.bool false)) 21 (.bool false)) 7 (.int .i64 (0 : Int))), [], h9⟩ (fun e s1 => (thenC (fun s1 => wpC Try.prog ctx false r12_3 s1 (endW ctx ⟨59, [.tmp 4, .tmp 5], b12⟩ Q)) (endW ctx ⟨59, [.tmp 4, .tmp 5], b12⟩ Q)) (exitB 0 e) s1)))))))))) := by kernel_rfl

/- cheesepress/cheesepresskit.SameJobs -/
def l13_0 : Code :=
 (.seq
  (.seq
   (.region 4 ⟨[O1 (some 11) 3 (.move (t 5)),
     O1 (some 12) 27 (.move (t 0)),
     O1 (some 13) 3 (.call ⟨(.builtin .len), #[(t 12)], #[27]⟩),
     O1 (some 14) 4 (.binOp .lss 3 (t 11) (t 13) 3)]⟩ false)
   (.cond (t 14)
    .skip
    (.exit 0)))
  (.seq
   (.block 1
    (.seq
     (.region 6 #[⟨(some 17), .move (t 0), 27, "tables.go:140", #[], none⟩,
       ⟨(some 18), .move (t 5), 3, "tables.go:140", #[], none⟩,
       ⟨(some 19), .indexAddr 27 (t 17) (t 18), 0, "tables.go:140", #[⟨0, .data⟩, ⟨1, .data⟩], none⟩,
       ⟨(some 20), .load 33 (t 19), 33, "tables.go:140", #[⟨2, .data⟩], none⟩,
       ⟨(some 21), .move (t 1), 27, "tables.go:140", #[], none⟩,
       ⟨(some 22), .move (t 5), 3, "tables.go:140", #[], none⟩,
       ⟨(some 23), .indexAddr 27 (t 21) (t 22), 0, "tables.go:140", #[⟨4, .data⟩, ⟨5, .data⟩], none⟩,
       ⟨(some 24), .load 33 (t 23), 33, "tables.go:140", #[⟨6, .data⟩], none⟩,
       ⟨(some 25), .binOp .neq 33 (t 20) (t 24) 33, 4, "tables.go:140", #[⟨3, .data⟩, ⟨7, .data⟩], none⟩] true)
     (.cond (t 25)
      (.seq
       (.region 7 ⟨[O1 (some 4) 4 (.assign (.const (.bool false)))]⟩ false)
       .ret)
      .skip)))
   (.region 5 ⟨[O1 (some 15) 3 (.move (t 5)),
     O1 (some 16) 3 (.binOp .add 3 (t 15) (ci 1) 3),
     O1 (some 5) 3 (.assign (t 16))]⟩ false)))
def r13_1 : Code :=
 (.seq
  (.region 8 ⟨[O1 (some 4) 4 (.assign (.const (.bool true)))]⟩ false)
  .ret)
def b13 : Code :=
 (.seq
  (.region 0 ⟨[O1 (some 4) 4 (.assign (.const (.bool false)))]⟩ false)
  (.seq
   (.seq
    (.region 1 ⟨[O1 (some 6) 27 (.move (t 0)),
      O1 (some 7) 3 (.call ⟨(.builtin .len), #[(t 6)], #[27]⟩),
      O1 (some 8) 27 (.move (t 1)),
      O1 (some 9) 3 (.call ⟨(.builtin .len), #[(t 8)], #[27]⟩),
      O1 (some 10) 4 (.binOp .neq 3 (t 7) (t 9) 3)]⟩ false)
    (.cond (t 10)
     (.seq
      (.region 2 ⟨[O1 (some 4) 4 (.assign (.const (.bool false)))]⟩ false)
      .ret)
     .skip))
   (.seq
    (.seq
     (.region 3 ⟨[O1 (some 5) 3 (.assign (ci 0))]⟩ false)
     (.block 0
      (.loop l13_0)))
    r13_1)))
theorem fn13 : (ctx.fn.get 13).map slimF = some ⟨26, [.tmp 4], b13⟩ := by kernel_rfl
theorem vl13_0 (tm : Tm) (y5 : Int) (y0 : V) (y1 : V) (d : List AD) (h : H) (Q : AX → St → Prop) : wpC Try.prog ctx false l13_0 ⟨26, (Tb.set (Tb.set (Tb.set tm 5 (.int .i64 y5)) 0 y0) 1 y1), d, h⟩ (sealQ [4, 5, 0, 1] Q) = (∃ (x0 : Int), alen ctx 27 h y0 = some (.int .i64 x0) ∧ ((y5 < x0 → ((h.next ≤ T.top ∧ h.low ≤ T.top) ∧ ∃ p1 o2, aidx ctx 27 y0 (.int .i64 y5) = some (.ptr p1 o2) ∧ ∃ (x3 : Int) (x4 : Int) (x5 : Int), ald ctx 33 h (.ptr p1 o2) = some (.agg [(.int .i64 x3), (.int .i64 x4), (.int .i64 x5)]) ∧ ∃ p6 o7, aidx ctx 27 y1 (.int .i64 y5) = some (.ptr p6 o7) ∧ ∃ (x8 : Int) (x9 : Int) (x10 : Int), ald ctx 33 h (.ptr p6 o7) = some (.agg [(.int .i64 x8), (.int .i64 x9), (.int .i64 x10)]) ∧ ∃ (b11 : Bool), abin ctx .neq 33 (t 20) (t 24) (.agg [(.int .i64 x3), (.int .i64 x4), (.int .i64 x5)]) (.agg [(.int .i64 x8), (.int .i64 x9), (.int .i64 x10)]) = some (.bool b11) ∧ ((b11 = true → (∀ tm', getV tm' 4 = (.bool false) → getV tm' 5 = (.int .i64 y5) → getV tm' 0 = y0 → getV tm' 1 = y1 → Q .ret ⟨26, tm', d, h⟩)) ∧ (b11 = false → (∀ tm', getV tm' 4 = getV tm 4 → getV tm' 5 = (.int .i64 (w64 (y5 + (1 : Int)))) → getV tm' 0 = y0 → getV tm' 1 = y1 → Q .normal ⟨26, tm', d, h⟩))))) ∧ (¬(y5 < x0) → (∀ tm', getV tm' 4 = getV tm 4 → getV tm' 5 = (.int .i64 y5) → getV tm' 0 = y0 → getV tm' 1 = y1 → Q (.exit 0) ⟨26, tm', d, h⟩)))) := by kernel_rfl
theorem vr13_1 (tm : Tm)  (d : List AD) (h : H) (Q : AX → St → Prop) : wpC Try.prog ctx false r13_1 ⟨26, tm, d, h⟩ (sealQ [4, 5, 0, 1] Q) = ((∀ tm', getV tm' 4 = (.bool true) → getV tm' 5 = getV tm 5 → getV tm' 0 = getV tm 0 → getV tm' 1 = getV tm 1 → Q .ret ⟨26, tm', d, h⟩)) := by kernel_rfl
theorem vb13 (a0 : V) (a1 : V) (h : H) (Q : V → H → Prop) : wpC Try.prog ctx false b13 ⟨26, setArgs [a0, a1] 0 (Tb.leaf undefV), [], h⟩ (endW ctx ⟨26, [.tmp 4], b13⟩ Q) = (∃ (x0 : Int), alen ctx 27 h a0 = some (.int .i64 x0) ∧ ∃ (x1 : Int), alen ctx 27 h a1 = some (.int .i64 x1) ∧ ((x0 ≠ x1 → Q (.bool false) h) ∧ (¬(x0 ≠ x1) → wpC Try.prog ctx false (.loop l13_0) ⟨26, (Tb.set (Tb.set (Tb.set (Tb.set (Tb.set (Tb.set (Tb.set (Tb.set (Tb.set (Tb.leaf undefV) 0 a0) 1 a1) 4 (.bool false)) 6 a0) 7 (.int .i64 x0)) 8 a1) 9 (.int .i64 x1)) 10 (.bool false)) 5 (.int .i64 (0 : Int))), [], h⟩ (fun e s1 => (thenC (fun s1 => wpC Try.prog ctx false r13_1 s1 (endW ctx ⟨26, [.tmp 4], b13⟩ Q)) (endW ctx ⟨26, [.tmp 4], b13⟩ Q)) (exitB 0 e) s1)))) := by kernel_rfl

/- cheesepress/cheesepresskit.SameInts -/
def l14_0 : Code :=
 (.seq
  (.seq
   (.region 4 ⟨[O1 (some 11) 3 (.move (t 5)),
     O1 (some 12) 22 (.move (t 0)),
     O1 (some 13) 3 (.call ⟨(.builtin .len), #[(t 12)], #[22]⟩),
     O1 (some 14) 4 (.binOp .lss 3 (t 11) (t 13) 3)]⟩ false)
   (.cond (t 14)
    .skip
    (.exit 0)))
  (.seq
   (.block 1
    (.seq
     (.region 6 #[⟨(some 17), .move (t 0), 22, "bytes.go:32", #[], none⟩,
       ⟨(some 18), .move (t 5), 3, "bytes.go:32", #[], none⟩,
       ⟨(some 19), .indexAddr 22 (t 17) (t 18), 0, "bytes.go:32", #[⟨0, .data⟩, ⟨1, .data⟩], none⟩,
       ⟨(some 20), .load 3 (t 19), 3, "bytes.go:32", #[⟨2, .data⟩], none⟩,
       ⟨(some 21), .move (t 1), 22, "bytes.go:32", #[], none⟩,
       ⟨(some 22), .move (t 5), 3, "bytes.go:32", #[], none⟩,
       ⟨(some 23), .indexAddr 22 (t 21) (t 22), 0, "bytes.go:32", #[⟨4, .data⟩, ⟨5, .data⟩], none⟩,
       ⟨(some 24), .load 3 (t 23), 3, "bytes.go:32", #[⟨6, .data⟩], none⟩,
       ⟨(some 25), .binOp .neq 3 (t 20) (t 24) 3, 4, "bytes.go:32", #[⟨3, .data⟩, ⟨7, .data⟩], none⟩] true)
     (.cond (t 25)
      (.seq
       (.region 7 ⟨[O1 (some 4) 4 (.assign (.const (.bool false)))]⟩ false)
       .ret)
      .skip)))
   (.region 5 ⟨[O1 (some 15) 3 (.move (t 5)),
     O1 (some 16) 3 (.binOp .add 3 (t 15) (ci 1) 3),
     O1 (some 5) 3 (.assign (t 16))]⟩ false)))
def r14_1 : Code :=
 (.seq
  (.region 8 ⟨[O1 (some 4) 4 (.assign (.const (.bool true)))]⟩ false)
  .ret)
def b14 : Code :=
 (.seq
  (.region 0 ⟨[O1 (some 4) 4 (.assign (.const (.bool false)))]⟩ false)
  (.seq
   (.seq
    (.region 1 ⟨[O1 (some 6) 22 (.move (t 0)),
      O1 (some 7) 3 (.call ⟨(.builtin .len), #[(t 6)], #[22]⟩),
      O1 (some 8) 22 (.move (t 1)),
      O1 (some 9) 3 (.call ⟨(.builtin .len), #[(t 8)], #[22]⟩),
      O1 (some 10) 4 (.binOp .neq 3 (t 7) (t 9) 3)]⟩ false)
    (.cond (t 10)
     (.seq
      (.region 2 ⟨[O1 (some 4) 4 (.assign (.const (.bool false)))]⟩ false)
      .ret)
     .skip))
   (.seq
    (.seq
     (.region 3 ⟨[O1 (some 5) 3 (.assign (ci 0))]⟩ false)
     (.block 0
      (.loop l14_0)))
    r14_1)))
theorem fn14 : (ctx.fn.get 14).map slimF = some ⟨26, [.tmp 4], b14⟩ := by kernel_rfl
theorem vl14_0 (tm : Tm) (y5 : Int) (y0 : V) (y1 : V) (d : List AD) (h : H) (Q : AX → St → Prop) : wpC Try.prog ctx false l14_0 ⟨26, (Tb.set (Tb.set (Tb.set tm 5 (.int .i64 y5)) 0 y0) 1 y1), d, h⟩ (sealQ [4, 5, 0, 1] Q) = (∃ (x0 : Int), alen ctx 22 h y0 = some (.int .i64 x0) ∧ ((y5 < x0 → ((h.next ≤ T.top ∧ h.low ≤ T.top) ∧ ∃ p1 o2, aidx ctx 22 y0 (.int .i64 y5) = some (.ptr p1 o2) ∧ ∃ (x3 : Int), ald ctx 3 h (.ptr p1 o2) = some (.int .i64 x3) ∧ ∃ p4 o5, aidx ctx 22 y1 (.int .i64 y5) = some (.ptr p4 o5) ∧ ∃ (x6 : Int), ald ctx 3 h (.ptr p4 o5) = some (.int .i64 x6) ∧ ((x3 ≠ x6 → (∀ tm', getV tm' 4 = (.bool false) → getV tm' 5 = (.int .i64 y5) → getV tm' 0 = y0 → getV tm' 1 = y1 → Q .ret ⟨26, tm', d, h⟩)) ∧ (¬(x3 ≠ x6) → (∀ tm', getV tm' 4 = getV tm 4 → getV tm' 5 = (.int .i64 (w64 (y5 + (1 : Int)))) → getV tm' 0 = y0 → getV tm' 1 = y1 → Q .normal ⟨26, tm', d, h⟩))))) ∧ (¬(y5 < x0) → (∀ tm', getV tm' 4 = getV tm 4 → getV tm' 5 = (.int .i64 y5) → getV tm' 0 = y0 → getV tm' 1 = y1 → Q (.exit 0) ⟨26, tm', d, h⟩)))) := by kernel_rfl
theorem vr14_1 (tm : Tm)  (d : List AD) (h : H) (Q : AX → St → Prop) : wpC Try.prog ctx false r14_1 ⟨26, tm, d, h⟩ (sealQ [4, 5, 0, 1] Q) = ((∀ tm', getV tm' 4 = (.bool true) → getV tm' 5 = getV tm 5 → getV tm' 0 = getV tm 0 → getV tm' 1 = getV tm 1 → Q .ret ⟨26, tm', d, h⟩)) := by kernel_rfl
theorem vb14 (a0 : V) (a1 : V) (h : H) (Q : V → H → Prop) : wpC Try.prog ctx false b14 ⟨26, setArgs [a0, a1] 0 (Tb.leaf undefV), [], h⟩ (endW ctx ⟨26, [.tmp 4], b14⟩ Q) = (∃ (x0 : Int), alen ctx 22 h a0 = some (.int .i64 x0) ∧ ∃ (x1 : Int), alen ctx 22 h a1 = some (.int .i64 x1) ∧ ((x0 ≠ x1 → Q (.bool false) h) ∧ (¬(x0 ≠ x1) → wpC Try.prog ctx false (.loop l14_0) ⟨26, (Tb.set (Tb.set (Tb.set (Tb.set (Tb.set (Tb.set (Tb.set (Tb.set (Tb.set (Tb.leaf undefV) 0 a0) 1 a1) 4 (.bool false)) 6 a0) 7 (.int .i64 x0)) 8 a1) 9 (.int .i64 x1)) 10 (.bool false)) 5 (.int .i64 (0 : Int))), [], h⟩ (fun e s1 => (thenC (fun s1 => wpC Try.prog ctx false r14_1 s1 (endW ctx ⟨26, [.tmp 4], b14⟩ Q)) (endW ctx ⟨26, [.tmp 4], b14⟩ Q)) (exitB 0 e) s1)))) := by kernel_rfl

/- cheesepress/cheesepressref36.Check -/
def l15_0 : Code :=
 (.seq
  (.seq
   (.region 3 ⟨[O1 (some 10) 3 (.move (t 6)),
     O1 (some 11) 27 (.move (t 1)),
     O1 (some 12) 3 (.call ⟨(.builtin .len), #[(t 11)], #[27]⟩),
     O1 (some 13) 4 (.binOp .lss 3 (t 10) (t 12) 3),
     O1 (some 14) 4 (.move (t 13)),
     O2 (some 15) 3 (.move (t 6)) (4, true),
     O2 (some 16) 4 (.binOp .leq 3 (t 15) (ci 4096) 3) (4, true),
     O1 (some 17) 4 (.pick (t 14) (t 16) (.const (.bool false)))]⟩ false)
   (.cond (t 17)
    .skip
    (.exit 0)))
  (.seq
   (.block 1
    (.region 5 ⟨[O1 (some 20) 22 (.move (t 5)),
      O1 (some 21) 27 (.move (t 1)),
      O1 (some 22) 3 (.move (t 6)),
      O1 (some 23) 0 (.indexAddr 27 (t 21) (t 22)),
      O1 (some 24) 0 (.fieldAddr 33 (t 23) 1),
      O1 (some 25) 3 (.load 3 (t 24)),
      O1 (some 26) 22 (.buildSlice 22 1 #[(0, (t 25))]),
      O1 (some 27) 22 (.call ⟨(.builtin .append), #[(t 20), (t 26)], #[22, 22]⟩),
      O1 (some 5) 22 (.assign (t 27))]⟩ false))
   (.region 4 ⟨[O1 (some 18) 3 (.move (t 6)),
     O1 (some 19) 3 (.binOp .add 3 (t 18) (ci 1) 3),
     O1 (some 6) 3 (.assign (t 19))]⟩ false)))
def l15_1 : Code :=
 (.seq
  (.seq
   (.region 10 ⟨[O1 (some 37) 3 (.move (t 9)),
     O1 (some 38) 27 (.move (t 1)),
     O1 (some 39) 3 (.call ⟨(.builtin .len), #[(t 38)], #[27]⟩),
     O1 (some 40) 4 (.binOp .lss 3 (t 37) (t 39) 3)]⟩ false)
   (.cond (t 40)
    .skip
    (.exit 2)))
  (.seq
   (.block 3
    (.seq
     (.region 12 #[⟨(some 43), .move (t 1), 27, "ref.go:64", #[], none⟩,
       ⟨(some 44), .move (t 9), 3, "ref.go:64", #[], none⟩,
       ⟨(some 45), .indexAddr 27 (t 43) (t 44), 0, "ref.go:64", #[⟨0, .data⟩, ⟨1, .data⟩], none⟩,
       ⟨(some 46), .load 33 (t 45), 33, "ref.go:64", #[⟨2, .data⟩], none⟩,
       ⟨(some 47), .move (t 7), 27, "ref.go:64", #[], none⟩,
       ⟨(some 48), .move (t 9), 3, "ref.go:64", #[], none⟩,
       ⟨(some 49), .indexAddr 27 (t 47) (t 48), 0, "ref.go:64", #[⟨4, .data⟩, ⟨5, .data⟩], none⟩,
       ⟨(some 50), .load 33 (t 49), 33, "ref.go:64", #[⟨6, .data⟩], none⟩,
       ⟨(some 51), .binOp .neq 33 (t 46) (t 50) 33, 4, "ref.go:64", #[⟨3, .data⟩, ⟨7, .data⟩], none⟩] true)
     (.cond (t 51)
      (.seq
       (.region 13 ⟨[O1 (some 4) 28 (.assign (ci 3))]⟩ false)
       .ret)
      .skip)))
   (.region 11 ⟨[O1 (some 41) 3 (.move (t 9)),
     O1 (some 42) 3 (.binOp .add 3 (t 41) (ci 1) 3),
     O1 (some 9) 3 (.assign (t 42))]⟩ false)))
def r15_2 : Code :=
 (.seq
  (.region 14 ⟨[O1 (some 4) 28 (.assign (ci 0))]⟩ false)
  .ret)
def r15_3 : Code :=
 (.seq
  (.region 6 ⟨[O1 (some 29) 24 (.load 24 (t 2)),
    O1 (some 30) 22 (.move (t 5)),
    O1 (some 31) 29 (.call ⟨(.value (.func 12)), #[(t 29), (t 30)], #[24, 22]⟩),
    O1 (some 28) 29 (.move (t 31)),
    O1 (some 32) 27 (.extract (t 28) 0),
    O1 (some 33) 28 (.extract (t 28) 1),
    O1 (some 7) 27 (.assign (t 32)),
    O1 (some 8) 28 (.assign (t 33))]⟩ false)
  (.seq
   (.seq
    (.region 7 ⟨[O1 (some 34) 28 (.move (t 8)),
      O1 (some 35) 4 (.binOp .neq 28 (t 34) (ci 0) 28)]⟩ false)
    (.cond (t 35)
     (.seq
      (.region 8 ⟨[O1 (some 36) 28 (.move (t 8)),
        O1 (some 4) 28 (.assign (t 36))]⟩ false)
      .ret)
     .skip))
   (.seq
    (.seq
     (.region 9 ⟨[O1 (some 9) 3 (.assign (ci 0))]⟩ false)
     (.block 2
      (.loop l15_1)))
    r15_2)))
def b15 : Code :=
 (.seq
  (.region 0 ⟨[O1 (some 2) 0 (.box 24 (t 0)),
    O1 (some 4) 28 (.assign (ci 0))]⟩ false)
  (.seq
   (.region 1 ⟨[O1 (some 5) 22 (.assign (.const (.slice none 0 0)))]⟩ false)
   (.seq
    (.seq
     (.region 2 ⟨[O1 (some 6) 3 (.assign (ci 0))]⟩ false)
     (.block 0
      (.loop l15_0)))
    r15_3)))
theorem fn15 : (ctx.fn.get 15).map slimF = some ⟨52, [.tmp 4], b15⟩ := by kernel_rfl
theorem vl15_0 (tm : Tm) (y6 : Int) (y1 : V) (y5 : V) (d : List AD) (h : H) (Q : AX → St → Prop) : wpC Try.prog ctx false l15_0 ⟨52, (Tb.set (Tb.set (Tb.set tm 6 (.int .i64 y6)) 1 y1) 5 y5), d, h⟩ (sealQ [4, 6, 1, 5, 9, 7, 2] Q) = (∃ (x0 : Int), alen ctx 27 h y1 = some (.int .i64 x0) ∧ ((y6 < x0 → ((y6 ≤ (4096 : Int) → ∃ p1 o2, aidx ctx 27 y1 (.int .i64 y6) = some (.ptr p1 o2) ∧ ∃ (x3 : Int), ald ctx 3 h (.ptr p1 (o2 + 1)) = some (.int .i64 x3) ∧ ∃ v4 h5, abuildSlice ctx 22 1 [(0, (.int .i64 x3))] h = some (v4, h5) ∧ (True ∧ ∃ v6 h7, aappend ctx 22 h5 y5 v4 = some (v6, h7) ∧ (∀ tm', getV tm' 4 = getV tm 4 → getV tm' 6 = (.int .i64 (w64 (y6 + (1 : Int)))) → getV tm' 1 = y1 → getV tm' 5 = v6 → getV tm' 9 = getV tm 9 → getV tm' 7 = getV tm 7 → getV tm' 2 = getV tm 2 → Q .normal ⟨52, tm', d, h7⟩))) ∧ (¬(y6 ≤ (4096 : Int)) → (∀ tm', getV tm' 4 = getV tm 4 → getV tm' 6 = (.int .i64 y6) → getV tm' 1 = y1 → getV tm' 5 = y5 → getV tm' 9 = getV tm 9 → getV tm' 7 = getV tm 7 → getV tm' 2 = getV tm 2 → Q (.exit 0) ⟨52, tm', d, h⟩)))) ∧ (¬(y6 < x0) → (∀ tm', getV tm' 4 = getV tm 4 → getV tm' 6 = (.int .i64 y6) → getV tm' 1 = y1 → getV tm' 5 = y5 → getV tm' 9 = getV tm 9 → getV tm' 7 = getV tm 7 → getV tm' 2 = getV tm 2 → Q (.exit 0) ⟨52, tm', d, h⟩)))) := by kernel_rfl
theorem vl15_1 (tm : Tm) (y9 : Int) (y1 : V) (y7 : V) (d : List AD) (h : H) (Q : AX → St → Prop) : wpC Try.prog ctx false l15_1 ⟨52, (Tb.set (Tb.set (Tb.set tm 9 (.int .i64 y9)) 1 y1) 7 y7), d, h⟩ (sealQ [4, 6, 1, 5, 9, 7, 2] Q) = (∃ (x0 : Int), alen ctx 27 h y1 = some (.int .i64 x0) ∧ ((y9 < x0 → ((h.next ≤ T.top ∧ h.low ≤ T.top) ∧ ∃ p1 o2, aidx ctx 27 y1 (.int .i64 y9) = some (.ptr p1 o2) ∧ ∃ (x3 : Int) (x4 : Int) (x5 : Int), ald ctx 33 h (.ptr p1 o2) = some (.agg [(.int .i64 x3), (.int .i64 x4), (.int .i64 x5)]) ∧ ∃ p6 o7, aidx ctx 27 y7 (.int .i64 y9) = some (.ptr p6 o7) ∧ ∃ (x8 : Int) (x9 : Int) (x10 : Int), ald ctx 33 h (.ptr p6 o7) = some (.agg [(.int .i64 x8), (.int .i64 x9), (.int .i64 x10)]) ∧ ∃ (b11 : Bool), abin ctx .neq 33 (t 46) (t 50) (.agg [(.int .i64 x3), (.int .i64 x4), (.int .i64 x5)]) (.agg [(.int .i64 x8), (.int .i64 x9), (.int .i64 x10)]) = some (.bool b11) ∧ ((b11 = true → (∀ tm', getV tm' 4 = (.int .i64 (3 : Int)) → getV tm' 6 = getV tm 6 → getV tm' 1 = y1 → getV tm' 5 = getV tm 5 → getV tm' 9 = (.int .i64 y9) → getV tm' 7 = y7 → getV tm' 2 = getV tm 2 → Q .ret ⟨52, tm', d, h⟩)) ∧ (b11 = false → (∀ tm', getV tm' 4 = getV tm 4 → getV tm' 6 = getV tm 6 → getV tm' 1 = y1 → getV tm' 5 = getV tm 5 → getV tm' 9 = (.int .i64 (w64 (y9 + (1 : Int)))) → getV tm' 7 = y7 → getV tm' 2 = getV tm 2 → Q .normal ⟨52, tm', d, h⟩))))) ∧ (¬(y9 < x0) → (∀ tm', getV tm' 4 = getV tm 4 → getV tm' 6 = getV tm 6 → getV tm' 1 = y1 → getV tm' 5 = getV tm 5 → getV tm' 9 = (.int .i64 y9) → getV tm' 7 = y7 → getV tm' 2 = getV tm 2 → Q (.exit 2) ⟨52, tm', d, h⟩)))) := by kernel_rfl
theorem vr15_2 (tm : Tm)  (d : List AD) (h : H) (Q : AX → St → Prop) : wpC Try.prog ctx false r15_2 ⟨52, tm, d, h⟩ (sealQ [4, 6, 1, 5, 9, 7, 2] Q) = ((∀ tm', getV tm' 4 = (.int .i64 (0 : Int)) → getV tm' 6 = getV tm 6 → getV tm' 1 = getV tm 1 → getV tm' 5 = getV tm 5 → getV tm' 9 = getV tm 9 → getV tm' 7 = getV tm 7 → getV tm' 2 = getV tm 2 → Q .ret ⟨52, tm', d, h⟩)) := by kernel_rfl
theorem vr15_3 (tm : Tm) (y2 : V) (y5 : V) (d : List AD) (h : H) (Q : AX → St → Prop) : wpC Try.prog ctx false r15_3 ⟨52, (Tb.set (Tb.set tm 2 y2) 5 y5), d, h⟩ (sealQ [4, 6, 1, 5, 9, 7, 2] Q) = (∃ (x0 : Int) (x1 : Int) (x2 : Int) (x3 : Int) (b4 : Bool) (b5 : Bool), ald ctx 24 h y2 = some (.agg [(.int .i64 x0), (.int .i64 x1), (.int .i64 x2), (.int .i64 x3), (.bool b4), (.bool b5)]) ∧ RF Try.prog ctx 12 [(.agg [(.int .i64 x0), (.int .i64 x1), (.int .i64 x2), (.int .i64 x3), (.bool b4), (.bool b5)]), y5] h (fun v6 h7 => ∃ (v8 : V) (x9 : Int), v6 = (.tuple [v8, (.int .i64 x9)]) ∧ ((x9 ≠ (0 : Int) → (∀ tm', getV tm' 4 = (.int .i64 x9) → getV tm' 6 = getV tm 6 → getV tm' 1 = getV tm 1 → getV tm' 5 = y5 → getV tm' 9 = getV tm 9 → getV tm' 7 = v8 → getV tm' 2 = y2 → Q .ret ⟨52, tm', d, h7⟩)) ∧ (¬(x9 ≠ (0 : Int)) → wpC Try.prog ctx false (.loop l15_1) ⟨52, (Tb.set (Tb.set (Tb.set (Tb.set (Tb.set (Tb.set (Tb.set (Tb.set (Tb.set (Tb.set (Tb.set (Tb.set (Tb.set tm 2 y2) 5 y5) 29 (.agg [(.int .i64 x0), (.int .i64 x1), (.int .i64 x2), (.int .i64 x3), (.bool b4), (.bool b5)])) 30 y5) 31 (.tuple [v8, (.int .i64 x9)])) 28 (.tuple [v8, (.int .i64 x9)])) 32 v8) 33 (.int .i64 x9)) 7 v8) 8 (.int .i64 x9)) 34 (.int .i64 x9)) 35 (.bool false)) 9 (.int .i64 (0 : Int))), d, h7⟩ (fun e s1 => (thenC (fun s1 => wpC Try.prog ctx false r15_2 s1 (sealQ [4, 6, 1, 5, 9, 7, 2] Q)) (sealQ [4, 6, 1, 5, 9, 7, 2] Q)) (exitB 2 e) s1))))) := by kernel_rfl
theorem vb15 (a0_0 : Int) (a0_1 : Int) (a0_2 : Int) (a0_3 : Int) (a0_4 : Bool) (a0_5 : Bool) (a1 : V) (h : H) (Q : V → H → Prop) : wpC Try.prog ctx false b15 ⟨52, setArgs [(.agg [(.int .i64 a0_0), (.int .i64 a0_1), (.int .i64 a0_2), (.int .i64 a0_3), (.bool a0_4), (.bool a0_5)]), a1] 0 (Tb.leaf undefV), [], h⟩ (endW ctx ⟨52, [.tmp 4], b15⟩ Q) = ((h.next < T.top ∧ ∀ p0 h1, p0 = h.next → h1 = h.new (.cells (.ls [(.int .i64 a0_0), (.int .i64 a0_1), (.int .i64 a0_2), (.int .i64 a0_3), (.bool a0_4), (.bool a0_5)]) ⟨0, 25, 0⟩ true false) → wpC Try.prog ctx false (.loop l15_0) ⟨52, (Tb.set (Tb.set (Tb.set (Tb.set (Tb.set (Tb.set (Tb.leaf undefV) 0 (.agg [(.int .i64 a0_0), (.int .i64 a0_1), (.int .i64 a0_2), (.int .i64 a0_3), (.bool a0_4), (.bool a0_5)])) 1 a1) 2 (.ptr p0 0)) 4 (.int .i64 (0 : Int))) 5 .nilslice) 6 (.int .i64 (0 : Int))), [], h1⟩ (fun e s1 => (thenC (fun s1 => wpC Try.prog ctx false r15_3 s1 (endW ctx ⟨52, [.tmp 4], b15⟩ Q)) (endW ctx ⟨52, [.tmp 4], b15⟩ Q)) (exitB 0 e) s1))) := by kernel_rfl

/- cheesepress/jobs.Units -/
def b16 : Code :=
 (.seq
  (.region 0 ⟨[O1 (some 2) 0 (.box 24 (t 0)),
    O1 (some 4) 22 (.assign (.const (.slice none 0 0))),
    O1 (some 5) 28 (.assign (ci 0))]⟩ false)
  (.seq
   (.seq
    (.region 1 ⟨[O1 (some 7) 24 (.load 24 (t 2)),
      O1 (some 8) 27 (.move (t 1)),
      O1 (some 9) 28 (.call ⟨(.value (.func 9)), #[(t 7), (t 8)], #[24, 27]⟩),
      O1 (some 6) 28 (.assign (t 9))]⟩ false)
    (.seq
     (.region 2 ⟨[O1 (some 10) 28 (.move (t 6)),
       O1 (some 11) 4 (.binOp .neq 28 (t 10) (ci 0) 28)]⟩ false)
     (.cond (t 11)
      (.seq
       (.region 3 ⟨[O1 (some 12) 28 (.move (t 6)),
         O1 (some 4) 22 (.assign (.const (.slice none 0 0))),
         O1 (some 5) 28 (.assign (t 12))]⟩ false)
       .ret)
      .skip)))
   (.seq
    (.region 4 ⟨[O1 (some 13) 27 (.move (t 1)),
      O1 (some 14) 55 (.makeFunc (.func 34) #[] #[(t 2)]),
      O1 (some 15) 22 (.call ⟨(.value (.func 28)), #[(t 13), (t 14)], #[27, 55]⟩),
      O1 (some 4) 22 (.assign (t 15)),
      O1 (some 5) 28 (.assign (ci 0))]⟩ false)
    .ret)))
theorem fn16 : (ctx.fn.get 16).map slimF = some ⟨16, [.tmp 4, .tmp 5], b16⟩ := by kernel_rfl
theorem vb16 (a0_0 : Int) (a0_1 : Int) (a0_2 : Int) (a0_3 : Int) (a0_4 : Bool) (a0_5 : Bool) (a1 : V) (h : H) (Q : V → H → Prop) : wpC Try.prog ctx false b16 ⟨16, setArgs [(.agg [(.int .i64 a0_0), (.int .i64 a0_1), (.int .i64 a0_2), (.int .i64 a0_3), (.bool a0_4), (.bool a0_5)]), a1] 0 (Tb.leaf undefV), [], h⟩ (endW ctx ⟨16, [.tmp 4, .tmp 5], b16⟩ Q) = ((h.next < T.top ∧ ∀ p0 h1, p0 = h.next → h1 = h.new (.cells (.ls [(.int .i64 a0_0), (.int .i64 a0_1), (.int .i64 a0_2), (.int .i64 a0_3), (.bool a0_4), (.bool a0_5)]) ⟨0, 25, 0⟩ true false) → ∃ (x2 : Int) (x3 : Int) (x4 : Int) (x5 : Int) (b6 : Bool) (b7 : Bool), ald ctx 24 h1 (.ptr p0 0) = some (.agg [(.int .i64 x2), (.int .i64 x3), (.int .i64 x4), (.int .i64 x5), (.bool b6), (.bool b7)]) ∧ RF Try.prog ctx 9 [(.agg [(.int .i64 x2), (.int .i64 x3), (.int .i64 x4), (.int .i64 x5), (.bool b6), (.bool b7)]), a1] h1 (fun v8 h9 => ∃ (x10 : Int), v8 = (.int .i64 x10) ∧ ((x10 ≠ (0 : Int) → Q (.tuple [.nilslice, (.int .i64 x10)]) h9) ∧ (¬(x10 ≠ (0 : Int)) → RF Try.prog ctx 28 [a1, (.func (.func 34) [] [(.ptr p0 0)])] h9 (fun v11 h12 => ∃ (v13 : V), v11 = v13 ∧ Q (.tuple [v13, (.int .i64 (0 : Int))]) h12)))))) := by kernel_rfl

/- cheesepress/cheesepressref36.Units -/
def l17_0 : Code :=
 (.seq
  (.seq
   (.region 6 ⟨[O1 (some 17) 3 (.move (t 8)),
     O1 (some 18) 27 (.move (t 1)),
     O1 (some 19) 3 (.call ⟨(.builtin .len), #[(t 18)], #[27]⟩),
     O1 (some 20) 4 (.binOp .lss 3 (t 17) (t 19) 3)]⟩ false)
   (.cond (t 20)
    .skip
    (.exit 0)))
  (.seq
   (.block 1
    (.seq
     (.region 8 #[⟨(some 24), .load 24 (t 2), 24, "ref.go:78", #[], none⟩,
       ⟨(some 25), .move (t 1), 27, "ref.go:78", #[], none⟩,
       ⟨(some 26), .move (t 8), 3, "ref.go:78", #[], none⟩,
       ⟨(some 27), .indexAddr 27 (t 25) (t 26), 0, "ref.go:78", #[⟨1, .data⟩, ⟨2, .data⟩], none⟩,
       ⟨(some 28), .fieldAddr 33 (t 27) 1, 0, "ref.go:78", #[⟨3, .data⟩], none⟩,
       ⟨(some 29), .load 3 (t 28), 3, "ref.go:78", #[⟨4, .data⟩], none⟩,
       ⟨(some 30), .move (t 1), 27, "ref.go:78", #[], none⟩,
       ⟨(some 31), .move (t 8), 3, "ref.go:78", #[], none⟩,
       ⟨(some 32), .indexAddr 27 (t 30) (t 31), 0, "ref.go:78", #[⟨6, .data⟩, ⟨7, .data⟩], none⟩,
       ⟨(some 33), .fieldAddr 33 (t 32) 0, 0, "ref.go:78", #[⟨8, .data⟩], none⟩,
       ⟨(some 34), .load 3 (t 33), 3, "ref.go:78", #[⟨9, .data⟩], none⟩,
       ⟨(some 35), .binOp .sub 3 (t 29) (t 34) 3, 3, "ref.go:78", #[⟨5, .data⟩, ⟨10, .data⟩], none⟩,
       ⟨(some 36), .call ⟨(.value (.func 36)), #[(t 24), (t 35)], #[24, 3]⟩, 46, "ref.go:78", #[⟨0, .data⟩, ⟨11, .data⟩], none⟩,
       ⟨(some 23), .move (t 36), 46, "ref.go:78", #[⟨12, .data⟩], none⟩,
       ⟨(some 37), .extract (t 23) 0, 3, "ref.go:78", #[⟨13, .data⟩], none⟩,
       ⟨(some 38), .extract (t 23) 1, 28, "ref.go:78", #[⟨13, .data⟩, ⟨16, .gcOnly .lateStores⟩], none⟩,
       ⟨(some 9), .assign (t 37), 3, "ref.go:78", #[⟨14, .data⟩, ⟨12, .chain⟩, ⟨0, .phase⟩, ⟨1, .phase⟩, ⟨2, .phase⟩, ⟨3, .phase⟩, ⟨4, .phase⟩, ⟨5, .phase⟩, ⟨6, .phase⟩, ⟨7, .phase⟩, ⟨8, .phase⟩, ⟨9, .phase⟩, ⟨10, .phase⟩, ⟨11, .phase⟩, ⟨12, .phase⟩, ⟨13, .phase⟩, ⟨14, .phase⟩, ⟨15, .textOnly .lateStores⟩], none⟩,
       ⟨(some 10), .assign (t 38), 28, "ref.go:78", #[⟨15, .data⟩, ⟨16, .chain⟩, ⟨0, .phase⟩, ⟨1, .phase⟩, ⟨2, .phase⟩, ⟨3, .phase⟩, ⟨4, .phase⟩, ⟨5, .phase⟩, ⟨6, .phase⟩, ⟨7, .phase⟩, ⟨8, .phase⟩, ⟨9, .phase⟩, ⟨10, .phase⟩, ⟨11, .phase⟩, ⟨12, .phase⟩, ⟨13, .phase⟩, ⟨14, .phase⟩, ⟨15, .phase⟩, ⟨16, .phase⟩], none⟩] true)
     (.region 9 ⟨[O1 (some 39) 22 (.move (t 7)),
       O1 (some 40) 3 (.move (t 9)),
       O1 (some 41) 22 (.buildSlice 22 1 #[(0, (t 40))]),
       O1 (some 42) 22 (.call ⟨(.builtin .append), #[(t 39), (t 41)], #[22, 22]⟩),
       O1 (some 7) 22 (.assign (t 42))]⟩ false)))
   (.region 7 ⟨[O1 (some 21) 3 (.move (t 8)),
     O1 (some 22) 3 (.binOp .add 3 (t 21) (ci 1) 3),
     O1 (some 8) 3 (.assign (t 22))]⟩ false)))
def r17_1 : Code :=
 (.seq
  (.region 10 ⟨[O1 (some 43) 22 (.move (t 7)),
    O1 (some 4) 22 (.assign (t 43)),
    O1 (some 5) 28 (.assign (ci 0))]⟩ false)
  .ret)
def b17 : Code :=
 (.seq
  (.region 0 ⟨[O1 (some 2) 0 (.box 24 (t 0)),
    O1 (some 4) 22 (.assign (.const (.slice none 0 0))),
    O1 (some 5) 28 (.assign (ci 0))]⟩ false)
  (.seq
   (.seq
    (.region 1 ⟨[O1 (some 11) 24 (.load 24 (t 2)),
      O1 (some 12) 27 (.move (t 1)),
      O1 (some 13) 28 (.call ⟨(.value (.func 15)), #[(t 11), (t 12)], #[24, 27]⟩),
      O1 (some 6) 28 (.assign (t 13))]⟩ false)
    (.seq
     (.region 2 ⟨[O1 (some 14) 28 (.move (t 6)),
       O1 (some 15) 4 (.binOp .neq 28 (t 14) (ci 0) 28)]⟩ false)
     (.cond (t 15)
      (.seq
       (.region 3 ⟨[O1 (some 16) 28 (.move (t 6)),
         O1 (some 4) 22 (.assign (.const (.slice none 0 0))),
         O1 (some 5) 28 (.assign (t 16))]⟩ false)
       .ret)
      .skip)))
   (.seq
    (.region 4 ⟨[O1 (some 7) 22 (.assign (.const (.slice none 0 0)))]⟩ false)
    (.seq
     (.seq
      (.region 5 ⟨[O1 (some 8) 3 (.assign (ci 0))]⟩ false)
      (.block 0
       (.loop l17_0)))
     r17_1))))
theorem fn17 : (ctx.fn.get 17).map slimF = some ⟨44, [.tmp 4, .tmp 5], b17⟩ := by kernel_rfl
theorem vl17_0 (tm : Tm) (y8 : Int) (y1 : V) (y2 : V) (y7 : V) (d : List AD) (h : H) (Q : AX → St → Prop) : wpC Try.prog ctx false l17_0 ⟨44, (Tb.set (Tb.set (Tb.set (Tb.set tm 8 (.int .i64 y8)) 1 y1) 2 y2) 7 y7), d, h⟩ (sealQ [4, 5, 8, 1, 2, 7] Q) = (∃ (x0 : Int), alen ctx 27 h y1 = some (.int .i64 x0) ∧ ((y8 < x0 → ((h.next ≤ T.top ∧ h.low ≤ T.top) ∧ ∃ (x1 : Int) (x2 : Int) (x3 : Int) (x4 : Int) (b5 : Bool) (b6 : Bool), ald ctx 24 h y2 = some (.agg [(.int .i64 x1), (.int .i64 x2), (.int .i64 x3), (.int .i64 x4), (.bool b5), (.bool b6)]) ∧ ∃ p7 o8, aidx ctx 27 y1 (.int .i64 y8) = some (.ptr p7 o8) ∧ ∃ (x9 : Int), ald ctx 3 h (.ptr p7 (o8 + 1)) = some (.int .i64 x9) ∧ ∃ p10 o11, aidx ctx 27 y1 (.int .i64 y8) = some (.ptr p10 o11) ∧ ∃ (x12 : Int), ald ctx 3 h (.ptr p10 (o11 + 0)) = some (.int .i64 x12) ∧ RF Try.prog ctx 36 [(.agg [(.int .i64 x1), (.int .i64 x2), (.int .i64 x3), (.int .i64 x4), (.bool b5), (.bool b6)]), (.int .i64 (w64 (x9 - x12)))] (topH h) (fun v13 h14 => ∃ (x15 : Int) (x16 : Int), v13 = (.tuple [(.int .i64 x15), (.int .i64 x16)]) ∧ ((h.next ≤ h14.low ∧ h14.next ≤ T.top) ∧ ∀ h17, h17 = lowM h h14 → ∃ v18 h19, abuildSlice ctx 22 1 [(0, (.int .i64 x15))] h17 = some (v18, h19) ∧ (True ∧ ∃ v20 h21, aappend ctx 22 h19 y7 v18 = some (v20, h21) ∧ (∀ tm', getV tm' 4 = getV tm 4 → getV tm' 5 = getV tm 5 → getV tm' 8 = (.int .i64 (w64 (y8 + (1 : Int)))) → getV tm' 1 = y1 → getV tm' 2 = y2 → getV tm' 7 = v20 → Q .normal ⟨44, tm', d, h21⟩)))))) ∧ (¬(y8 < x0) → (∀ tm', getV tm' 4 = getV tm 4 → getV tm' 5 = getV tm 5 → getV tm' 8 = (.int .i64 y8) → getV tm' 1 = y1 → getV tm' 2 = y2 → getV tm' 7 = y7 → Q (.exit 0) ⟨44, tm', d, h⟩)))) := by kernel_rfl
theorem vr17_1 (tm : Tm) (y7 : V) (d : List AD) (h : H) (Q : AX → St → Prop) : wpC Try.prog ctx false r17_1 ⟨44, (Tb.set tm 7 y7), d, h⟩ (sealQ [4, 5, 8, 1, 2, 7] Q) = ((∀ tm', getV tm' 4 = y7 → getV tm' 5 = (.int .i64 (0 : Int)) → getV tm' 8 = getV tm 8 → getV tm' 1 = getV tm 1 → getV tm' 2 = getV tm 2 → getV tm' 7 = y7 → Q .ret ⟨44, tm', d, h⟩)) := by kernel_rfl
theorem vb17 (a0_0 : Int) (a0_1 : Int) (a0_2 : Int) (a0_3 : Int) (a0_4 : Bool) (a0_5 : Bool) (a1 : V) (h : H) (Q : V → H → Prop) : wpC Try.prog ctx false b17 ⟨44, setArgs [(.agg [(.int .i64 a0_0), (.int .i64 a0_1), (.int .i64 a0_2), (.int .i64 a0_3), (.bool a0_4), (.bool a0_5)]), a1] 0 (Tb.leaf undefV), [], h⟩ (endW ctx ⟨44, [.tmp 4, .tmp 5], b17⟩ Q) = ((h.next < T.top ∧ ∀ p0 h1, p0 = h.next → h1 = h.new (.cells (.ls [(.int .i64 a0_0), (.int .i64 a0_1), (.int .i64 a0_2), (.int .i64 a0_3), (.bool a0_4), (.bool a0_5)]) ⟨0, 25, 0⟩ true false) → ∃ (x2 : Int) (x3 : Int) (x4 : Int) (x5 : Int) (b6 : Bool) (b7 : Bool), ald ctx 24 h1 (.ptr p0 0) = some (.agg [(.int .i64 x2), (.int .i64 x3), (.int .i64 x4), (.int .i64 x5), (.bool b6), (.bool b7)]) ∧ RF Try.prog ctx 15 [(.agg [(.int .i64 x2), (.int .i64 x3), (.int .i64 x4), (.int .i64 x5), (.bool b6), (.bool b7)]), a1] h1 (fun v8 h9 => ∃ (x10 : Int), v8 = (.int .i64 x10) ∧ ((x10 ≠ (0 : Int) → Q (.tuple [.nilslice, (.int .i64 x10)]) h9) ∧ (¬(x10 ≠ (0 : Int)) → wpC Try.prog ctx false (.loop l17_0) ⟨44, (Tb.set (Tb.set (Tb.set (Tb.set (Tb.set (Tb.set (Tb.set (Tb.set (Tb.set (Tb.set (Tb.set (Tb.set (Tb.set (Tb.leaf undefV) 0 (.agg [(.int .i64 a0_0), (.int .i64 a0_1), (.int .i64 a0_2), (.int .i64 a0_3), (.bool a0_4), (.bool a0_5)])) 1 a1) 2 (.ptr p0 0)) 4 .nilslice) 5 (.int .i64 (0 : Int))) 11 (.agg [(.int .i64 x2), (.int .i64 x3), (.int .i64 x4), (.int .i64 x5), (.bool b6), (.bool b7)])) 12 a1) 13 (.int .i64 x10)) 6 (.int .i64 x10)) 14 (.int .i64 x10)) 15 (.bool false)) 7 .nilslice) 8 (.int .i64 (0 : Int))), [], h9⟩ (fun e s1 => (thenC (fun s1 => wpC Try.prog ctx false r17_1 s1 (endW ctx ⟨44, [.tmp 4, .tmp 5], b17⟩ Q)) (endW ctx ⟨44, [.tmp 4, .tmp 5], b17⟩ Q)) (exitB 0 e) s1)))))) := by kernel_rfl

/- cheesepress/jobs.Parts -/
def b18 : Code :=
 (.seq
  (.region 0 ⟨[O1 (some 3) 0 (.box 33 (t 1)),
    O1 (some 4) 9 (.assign (cs [])),
    O1 (some 5) 9 (.assign (cs [])),
    O1 (some 6) 28 (.assign (ci 0))]⟩ false)
  (.seq
   (.seq
    (.region 1 ⟨[O1 (some 7) 0 (.fieldAddr 33 (t 3) 2),
      O1 (some 8) 3 (.load 3 (t 7)),
      O1 (some 9) 4 (.binOp .lss 3 (t 8) (ci 0) 3),
      O1 (some 10) 4 (.move (t 9)),
      O2 (some 11) 0 (.fieldAddr 33 (t 3) 2) (3, false),
      O2 (some 12) 3 (.load 3 (t 11)) (3, false),
      O2 (some 13) 0 (.fieldAddr 33 (t 3) 0) (3, false),
      O2 (some 14) 3 (.load 3 (t 13)) (3, false),
      O2 (some 15) 4 (.binOp .gtr 3 (t 12) (t 14) 3) (3, false),
      O1 (some 16) 4 (.pick (t 10) (.const (.bool true)) (t 15)),
      O1 (some 17) 4 (.move (t 16)),
      O2 (some 18) 0 (.fieldAddr 33 (t 3) 0) (10, false),
      O2 (some 19) 3 (.load 3 (t 18)) (10, false),
      O2 (some 20) 0 (.fieldAddr 33 (t 3) 1) (10, false),
      O2 (some 21) 3 (.load 3 (t 20)) (10, false),
      O2 (some 22) 4 (.binOp .gtr 3 (t 19) (t 21) 3) (10, false),
      O1 (some 23) 4 (.pick (t 17) (.const (.bool true)) (t 22)),
      O1 (some 24) 4 (.move (t 23)),
      O2 (some 25) 0 (.fieldAddr 33 (t 3) 1) (17, false),
      O2 (some 26) 3 (.load 3 (t 25)) (17, false),
      O2 (some 27) 9 (.move (t 0)) (17, false),
      O2 (some 28) 3 (.call ⟨(.builtin .len), #[(t 27)], #[9]⟩) (17, false),
      O2 (some 29) 4 (.binOp .gtr 3 (t 26) (t 28) 3) (17, false),
      O1 (some 30) 4 (.pick (t 24) (.const (.bool true)) (t 29))]⟩ false)
    (.cond (t 30)
     (.seq
      (.region 2 ⟨[O1 (some 4) 9 (.assign (cs [])),
        O1 (some 5) 9 (.assign (cs [])),
        O1 (some 6) 28 (.assign (ci 2))]⟩ false)
      .ret)
     .skip))
   (.seq
    (.region 3 #[⟨(some 31), .move (t 0), 9, "jobs.go:122", #[], none⟩,
      ⟨(some 32), .fieldAddr 33 (t 3) 2, 0, "jobs.go:122", #[], none⟩,
      ⟨(some 33), .load 3 (t 32), 3, "jobs.go:122", #[⟨1, .data⟩], none⟩,
      ⟨(some 34), .fieldAddr 33 (t 3) 0, 0, "jobs.go:122", #[], none⟩,
      ⟨(some 35), .load 3 (t 34), 3, "jobs.go:122", #[⟨3, .data⟩], none⟩,
      ⟨(some 36), .slice 9 (t 31) (some (t 33)) (some (t 35)) none, 9, "jobs.go:122", #[⟨0, .data⟩, ⟨2, .data⟩, ⟨4, .data⟩], none⟩,
      ⟨(some 37), .move (t 0), 9, "jobs.go:122", #[], none⟩,
      ⟨(some 38), .fieldAddr 33 (t 3) 0, 0, "jobs.go:122", #[], none⟩,
      ⟨(some 39), .load 3 (t 38), 3, "jobs.go:122", #[⟨7, .data⟩], none⟩,
      ⟨(some 40), .fieldAddr 33 (t 3) 1, 0, "jobs.go:122", #[], none⟩,
      ⟨(some 41), .load 3 (t 40), 3, "jobs.go:122", #[⟨9, .data⟩], none⟩,
      ⟨(some 42), .slice 9 (t 37) (some (t 39)) (some (t 41)) none, 9, "jobs.go:122", #[⟨6, .data⟩, ⟨8, .data⟩, ⟨10, .data⟩], none⟩,
      ⟨(some 4), .assign (t 36), 9, "jobs.go:122", #[⟨5, .data⟩, ⟨0, .phase⟩, ⟨1, .phase⟩, ⟨2, .phase⟩, ⟨3, .phase⟩, ⟨4, .phase⟩, ⟨5, .phase⟩, ⟨6, .textOnly .lateStores⟩, ⟨7, .textOnly .lateStores⟩, ⟨8, .textOnly .lateStores⟩, ⟨9, .textOnly .lateStores⟩, ⟨10, .textOnly .lateStores⟩, ⟨11, .textOnly .lateStoresUnsure⟩], none⟩,
      ⟨(some 5), .assign (t 42), 9, "jobs.go:122", #[⟨11, .data⟩, ⟨12, .chain⟩, ⟨0, .phase⟩, ⟨1, .phase⟩, ⟨2, .phase⟩, ⟨3, .phase⟩, ⟨4, .phase⟩, ⟨5, .phase⟩, ⟨6, .phase⟩, ⟨7, .phase⟩, ⟨8, .phase⟩, ⟨9, .phase⟩, ⟨10, .phase⟩, ⟨11, .phase⟩, ⟨12, .phase⟩], none⟩,
      ⟨(some 6), .assign (ci 0), 28, "jobs.go:122", #[⟨13, .chain⟩, ⟨0, .phase⟩, ⟨1, .phase⟩, ⟨2, .phase⟩, ⟨3, .phase⟩, ⟨4, .phase⟩, ⟨5, .phase⟩, ⟨6, .phase⟩, ⟨7, .phase⟩, ⟨8, .phase⟩, ⟨9, .phase⟩, ⟨10, .phase⟩, ⟨11, .phase⟩, ⟨12, .phase⟩, ⟨13, .phase⟩], none⟩] true)
    .ret)))
theorem fn18 : (ctx.fn.get 18).map slimF = some ⟨43, [.tmp 4, .tmp 5, .tmp 6], b18⟩ := by kernel_rfl
theorem vb18 (a0 : List UInt8) (a1_0 : Int) (a1_1 : Int) (a1_2 : Int) (h : H) (Q : V → H → Prop) : wpC Try.prog ctx false b18 ⟨43, setArgs [(.str a0), (.agg [(.int .i64 a1_0), (.int .i64 a1_1), (.int .i64 a1_2)])] 0 (Tb.leaf undefV), [], h⟩ (endW ctx ⟨43, [.tmp 4, .tmp 5, .tmp 6], b18⟩ Q) = ((h.next < T.top ∧ ∀ p0 h1, p0 = h.next → h1 = h.new (.cells (.ls [(.int .i64 a1_0), (.int .i64 a1_1), (.int .i64 a1_2)]) ⟨0, 34, 0⟩ true false) → ∃ (x2 : Int), ald ctx 3 h1 (.ptr p0 (0 + 2)) = some (.int .i64 x2) ∧ ((x2 < (0 : Int) → Q (.tuple [(.str []), (.str []), (.int .i64 (2 : Int))]) h1) ∧ (¬(x2 < (0 : Int)) → ∃ (x3 : Int), ald ctx 3 h1 (.ptr p0 (0 + 2)) = some (.int .i64 x3) ∧ ∃ (x4 : Int), ald ctx 3 h1 (.ptr p0 (0 + 0)) = some (.int .i64 x4) ∧ ((x4 < x3 → Q (.tuple [(.str []), (.str []), (.int .i64 (2 : Int))]) h1) ∧ (¬(x4 < x3) → ∃ (x5 : Int), ald ctx 3 h1 (.ptr p0 (0 + 0)) = some (.int .i64 x5) ∧ ∃ (x6 : Int), ald ctx 3 h1 (.ptr p0 (0 + 1)) = some (.int .i64 x6) ∧ ((x6 < x5 → Q (.tuple [(.str []), (.str []), (.int .i64 (2 : Int))]) h1) ∧ (¬(x6 < x5) → ∃ (x7 : Int), ald ctx 3 h1 (.ptr p0 (0 + 1)) = some (.int .i64 x7) ∧ (((Int.ofNat (List.length a0)) < x7 → Q (.tuple [(.str []), (.str []), (.int .i64 (2 : Int))]) h1) ∧ (¬((Int.ofNat (List.length a0)) < x7) → ((h1.next ≤ T.top ∧ h1.low ≤ T.top) ∧ ∃ (x8 : Int), ald ctx 3 h1 (.ptr p0 (0 + 2)) = some (.int .i64 x8) ∧ ∃ (x9 : Int), ald ctx 3 h1 (.ptr p0 (0 + 0)) = some (.int .i64 x9) ∧ ∃ (l10 : List UInt8), aslice ctx 9 h1 (.str a0) (some (.int .i64 x8)) (some (.int .i64 x9)) none = some (.str l10) ∧ ∃ (x11 : Int), ald ctx 3 h1 (.ptr p0 (0 + 0)) = some (.int .i64 x11) ∧ ∃ (x12 : Int), ald ctx 3 h1 (.ptr p0 (0 + 1)) = some (.int .i64 x12) ∧ ∃ (l13 : List UInt8), aslice ctx 9 h1 (.str a0) (some (.int .i64 x11)) (some (.int .i64 x12)) none = some (.str l13) ∧ Q (.tuple [(.str l10), (.str l13), (.int .i64 (0 : Int))]) h1))))))))))) := by kernel_rfl

/- cheesepress/cheesepressref36.Parts -/
def b19 : Code :=
 (.seq
  (.region 0 ⟨[O1 (some 3) 0 (.box 33 (t 1)),
    O1 (some 4) 9 (.assign (cs [])),
    O1 (some 5) 9 (.assign (cs [])),
    O1 (some 6) 28 (.assign (ci 0))]⟩ false)
  (.seq
   (.seq
    (.region 1 ⟨[O1 (some 7) 0 (.fieldAddr 33 (t 3) 2),
      O1 (some 8) 3 (.load 3 (t 7)),
      O1 (some 9) 4 (.binOp .lss 3 (t 8) (ci 0) 3),
      O1 (some 10) 4 (.move (t 9)),
      O2 (some 11) 0 (.fieldAddr 33 (t 3) 0) (3, false),
      O2 (some 12) 3 (.load 3 (t 11)) (3, false),
      O2 (some 13) 0 (.fieldAddr 33 (t 3) 2) (3, false),
      O2 (some 14) 3 (.load 3 (t 13)) (3, false),
      O2 (some 15) 4 (.binOp .lss 3 (t 12) (t 14) 3) (3, false),
      O1 (some 16) 4 (.pick (t 10) (.const (.bool true)) (t 15)),
      O1 (some 17) 4 (.move (t 16)),
      O2 (some 18) 0 (.fieldAddr 33 (t 3) 1) (10, false),
      O2 (some 19) 3 (.load 3 (t 18)) (10, false),
      O2 (some 20) 0 (.fieldAddr 33 (t 3) 0) (10, false),
      O2 (some 21) 3 (.load 3 (t 20)) (10, false),
      O2 (some 22) 4 (.binOp .lss 3 (t 19) (t 21) 3) (10, false),
      O1 (some 23) 4 (.pick (t 17) (.const (.bool true)) (t 22)),
      O1 (some 24) 4 (.move (t 23)),
      O2 (some 25) 0 (.fieldAddr 33 (t 3) 1) (17, false),
      O2 (some 26) 3 (.load 3 (t 25)) (17, false),
      O2 (some 27) 9 (.move (t 0)) (17, false),
      O2 (some 28) 3 (.call ⟨(.builtin .len), #[(t 27)], #[9]⟩) (17, false),
      O2 (some 29) 4 (.binOp .gtr 3 (t 26) (t 28) 3) (17, false),
      O1 (some 30) 4 (.pick (t 24) (.const (.bool true)) (t 29))]⟩ false)
    (.cond (t 30)
     (.seq
      (.region 2 ⟨[O1 (some 4) 9 (.assign (cs [])),
        O1 (some 5) 9 (.assign (cs [])),
        O1 (some 6) 28 (.assign (ci 2))]⟩ false)
      .ret)
     .skip))
   (.seq
    (.region 3 #[⟨(some 31), .move (t 0), 9, "ref.go:89", #[], none⟩,
      ⟨(some 32), .fieldAddr 33 (t 3) 2, 0, "ref.go:89", #[], none⟩,
      ⟨(some 33), .load 3 (t 32), 3, "ref.go:89", #[⟨1, .data⟩], none⟩,
      ⟨(some 34), .fieldAddr 33 (t 3) 0, 0, "ref.go:89", #[], none⟩,
      ⟨(some 35), .load 3 (t 34), 3, "ref.go:89", #[⟨3, .data⟩], none⟩,
      ⟨(some 36), .slice 9 (t 31) (some (t 33)) (some (t 35)) none, 9, "ref.go:89", #[⟨0, .data⟩, ⟨2, .data⟩, ⟨4, .data⟩], none⟩,
      ⟨(some 37), .move (t 0), 9, "ref.go:89", #[], none⟩,
      ⟨(some 38), .fieldAddr 33 (t 3) 0, 0, "ref.go:89", #[], none⟩,
      ⟨(some 39), .load 3 (t 38), 3, "ref.go:89", #[⟨7, .data⟩], none⟩,
      ⟨(some 40), .fieldAddr 33 (t 3) 1, 0, "ref.go:89", #[], none⟩,
      ⟨(some 41), .load 3 (t 40), 3, "ref.go:89", #[⟨9, .data⟩], none⟩,
      ⟨(some 42), .slice 9 (t 37) (some (t 39)) (some (t 41)) none, 9, "ref.go:89", #[⟨6, .data⟩, ⟨8, .data⟩, ⟨10, .data⟩], none⟩,
      ⟨(some 4), .assign (t 36), 9, "ref.go:89", #[⟨5, .data⟩, ⟨0, .phase⟩, ⟨1, .phase⟩, ⟨2, .phase⟩, ⟨3, .phase⟩, ⟨4, .phase⟩, ⟨5, .phase⟩, ⟨6, .textOnly .lateStores⟩, ⟨7, .textOnly .lateStores⟩, ⟨8, .textOnly .lateStores⟩, ⟨9, .textOnly .lateStores⟩, ⟨10, .textOnly .lateStores⟩, ⟨11, .textOnly .lateStoresUnsure⟩], none⟩,
      ⟨(some 5), .assign (t 42), 9, "ref.go:89", #[⟨11, .data⟩, ⟨12, .chain⟩, ⟨0, .phase⟩, ⟨1, .phase⟩, ⟨2, .phase⟩, ⟨3, .phase⟩, ⟨4, .phase⟩, ⟨5, .phase⟩, ⟨6, .phase⟩, ⟨7, .phase⟩, ⟨8, .phase⟩, ⟨9, .phase⟩, ⟨10, .phase⟩, ⟨11, .phase⟩, ⟨12, .phase⟩], none⟩,
      ⟨(some 6), .assign (ci 0), 28, "ref.go:89", #[⟨13, .chain⟩, ⟨0, .phase⟩, ⟨1, .phase⟩, ⟨2, .phase⟩, ⟨3, .phase⟩, ⟨4, .phase⟩, ⟨5, .phase⟩, ⟨6, .phase⟩, ⟨7, .phase⟩, ⟨8, .phase⟩, ⟨9, .phase⟩, ⟨10, .phase⟩, ⟨11, .phase⟩, ⟨12, .phase⟩, ⟨13, .phase⟩], none⟩] true)
    .ret)))
theorem fn19 : (ctx.fn.get 19).map slimF = some ⟨43, [.tmp 4, .tmp 5, .tmp 6], b19⟩ := by kernel_rfl
theorem vb19 (a0 : List UInt8) (a1_0 : Int) (a1_1 : Int) (a1_2 : Int) (h : H) (Q : V → H → Prop) : wpC Try.prog ctx false b19 ⟨43, setArgs [(.str a0), (.agg [(.int .i64 a1_0), (.int .i64 a1_1), (.int .i64 a1_2)])] 0 (Tb.leaf undefV), [], h⟩ (endW ctx ⟨43, [.tmp 4, .tmp 5, .tmp 6], b19⟩ Q) = ((h.next < T.top ∧ ∀ p0 h1, p0 = h.next → h1 = h.new (.cells (.ls [(.int .i64 a1_0), (.int .i64 a1_1), (.int .i64 a1_2)]) ⟨0, 34, 0⟩ true false) → ∃ (x2 : Int), ald ctx 3 h1 (.ptr p0 (0 + 2)) = some (.int .i64 x2) ∧ ((x2 < (0 : Int) → Q (.tuple [(.str []), (.str []), (.int .i64 (2 : Int))]) h1) ∧ (¬(x2 < (0 : Int)) → ∃ (x3 : Int), ald ctx 3 h1 (.ptr p0 (0 + 0)) = some (.int .i64 x3) ∧ ∃ (x4 : Int), ald ctx 3 h1 (.ptr p0 (0 + 2)) = some (.int .i64 x4) ∧ ((x3 < x4 → Q (.tuple [(.str []), (.str []), (.int .i64 (2 : Int))]) h1) ∧ (¬(x3 < x4) → ∃ (x5 : Int), ald ctx 3 h1 (.ptr p0 (0 + 1)) = some (.int .i64 x5) ∧ ∃ (x6 : Int), ald ctx 3 h1 (.ptr p0 (0 + 0)) = some (.int .i64 x6) ∧ ((x5 < x6 → Q (.tuple [(.str []), (.str []), (.int .i64 (2 : Int))]) h1) ∧ (¬(x5 < x6) → ∃ (x7 : Int), ald ctx 3 h1 (.ptr p0 (0 + 1)) = some (.int .i64 x7) ∧ (((Int.ofNat (List.length a0)) < x7 → Q (.tuple [(.str []), (.str []), (.int .i64 (2 : Int))]) h1) ∧ (¬((Int.ofNat (List.length a0)) < x7) → ((h1.next ≤ T.top ∧ h1.low ≤ T.top) ∧ ∃ (x8 : Int), ald ctx 3 h1 (.ptr p0 (0 + 2)) = some (.int .i64 x8) ∧ ∃ (x9 : Int), ald ctx 3 h1 (.ptr p0 (0 + 0)) = some (.int .i64 x9) ∧ ∃ (l10 : List UInt8), aslice ctx 9 h1 (.str a0) (some (.int .i64 x8)) (some (.int .i64 x9)) none = some (.str l10) ∧ ∃ (x11 : Int), ald ctx 3 h1 (.ptr p0 (0 + 0)) = some (.int .i64 x11) ∧ ∃ (x12 : Int), ald ctx 3 h1 (.ptr p0 (0 + 1)) = some (.int .i64 x12) ∧ ∃ (l13 : List UInt8), aslice ctx 9 h1 (.str a0) (some (.int .i64 x11)) (some (.int .i64 x12)) none = some (.str l13) ∧ Q (.tuple [(.str l10), (.str l13), (.int .i64 (0 : Int))]) h1))))))))))) := by kernel_rfl

/- cheesepress/cheesepresskit.Input -/
def l20_0 : Code :=
 (.seq
  (.seq
   (.region 21 ⟨[O1 (some 76) 3 (.move (t 11)),
     O1 (some 77) 3 (.move (t 9)),
     O1 (some 78) 4 (.binOp .lss 3 (t 76) (t 77) 3),
     O1 (some 79) 4 (.move (t 78)),
     O2 (some 80) 3 (.move (t 10)) (3, true),
     O2 (some 81) 4 (.binOp .geq 3 (t 80) (ci 0) 3) (3, true),
     O1 (some 82) 4 (.pick (t 79) (t 81) (.const (.bool false)))]⟩ false)
   (.cond (t 82)
    .skip
    (.exit 5)))
  (.seq
   (.block 6
    (.region 23 ⟨[O1 (some 85) 9 (.move (t 5)),
      O1 (some 86) 9 (.move (t 5)),
      O1 (some 87) 3 (.move (t 10)),
      O1 (some 88) 3 (.move (t 11)),
      O1 (some 89) 3 (.binOp .add 3 (t 87) (t 88) 3),
      O1 (some 90) 3 (.move (t 10)),
      O1 (some 91) 3 (.move (t 11)),
      O1 (some 92) 3 (.binOp .add 3 (t 90) (t 91) 3),
      O1 (some 93) 3 (.binOp .add 3 (t 92) (ci 1) 3),
      O1 (some 94) 9 (.slice 9 (t 86) (some (t 89)) (some (t 93)) none),
      O1 (some 95) 9 (.binOp .add 9 (t 85) (t 94) 9),
      O1 (some 5) 9 (.assign (t 95))]⟩ false))
   (.region 22 ⟨[O1 (some 83) 3 (.move (t 11)),
     O1 (some 84) 3 (.binOp .add 3 (t 83) (ci 1) 3),
     O1 (some 11) 3 (.assign (t 84))]⟩ false)))
def l20_1 : Code :=
 (.seq
  (.seq
   (.region 10 ⟨[O1 (some 37) 3 (.move (t 12)),
     O1 (some 38) 3 (.move (t 9)),
     O1 (some 39) 3 (.binOp .quo 3 (t 38) (ci 6) 3),
     O1 (some 40) 4 (.binOp .lss 3 (t 37) (t 39) 3)]⟩ false)
   (.cond (t 40)
    .skip
    (.exit 3)))
  (.seq
   (.block 4
    (.region 12 ⟨[O1 (some 43) 9 (.move (t 5)),
      O1 (some 44) 58 (.move (t 6)),
      O1 (some 45) 3 (.move (t 8)),
      O1 (some 46) 3 (.binOp .quo 3 (t 45) (ci 8) 3),
      O1 (some 47) 3 (.move (t 12)),
      O1 (some 48) 3 (.move (t 12)),
      O1 (some 49) 3 (.binOp .mul 3 (t 47) (t 48) 3),
      O1 (some 50) 3 (.binOp .add 3 (t 46) (t 49) 3),
      O1 (some 51) 58 (.move (t 6)),
      O1 (some 52) 3 (.call ⟨(.builtin .len), #[(t 51)], #[58]⟩),
      O1 (some 53) 3 (.call ⟨(.value (.func 7)), #[(t 50), (t 52)], #[3, 3]⟩),
      O1 (some 54) 0 (.indexAddr 58 (t 44) (t 53)),
      O1 (some 55) 9 (.load 9 (t 54)),
      O1 (some 56) 9 (.binOp .add 9 (t 43) (t 55) 9),
      O1 (some 5) 9 (.assign (t 56))]⟩ false))
   (.region 11 ⟨[O1 (some 41) 3 (.move (t 12)),
     O1 (some 42) 3 (.binOp .add 3 (t 41) (ci 1) 3),
     O1 (some 12) 3 (.assign (t 42))]⟩ false)))
def r20_2 : Code :=
 (.region 5 ⟨[O1 (some 24) 3 (.move (t 7)),
   O1 (some 25) 3 (.binOp .add 3 (t 24) (ci 1) 3),
   O1 (some 7) 3 (.assign (t 25))]⟩ false)
def l20_3 : Code :=
 (.seq
  (.seq
   (.region 4 ⟨[O1 (some 14) 3 (.move (t 7)),
     O1 (some 15) 22 (.move (t 0)),
     O1 (some 16) 3 (.call ⟨(.builtin .len), #[(t 15)], #[22]⟩),
     O1 (some 17) 4 (.binOp .lss 3 (t 14) (t 16) 3),
     O1 (some 18) 4 (.move (t 17)),
     O2 (some 19) 9 (.move (t 5)) (4, true),
     O2 (some 20) 3 (.call ⟨(.builtin .len), #[(t 19)], #[9]⟩) (4, true),
     O2 (some 21) 3 (.move (t 1)) (4, true),
     O2 (some 22) 4 (.binOp .lss 3 (t 20) (t 21) 3) (4, true),
     O1 (some 23) 4 (.pick (t 18) (t 22) (.const (.bool false)))]⟩ false)
   (.cond (t 23)
    .skip
    (.exit 0)))
  (.seq
   (.block 1
    (.seq
     (.region 6 ⟨[O1 (some 26) 22 (.move (t 0)),
       O1 (some 27) 3 (.move (t 7)),
       O1 (some 28) 0 (.indexAddr 22 (t 26) (t 27)),
       O1 (some 29) 3 (.load 3 (t 28)),
       O1 (some 30) 3 (.call ⟨(.value (.func 7)), #[(t 29), (ci 1073741824)], #[3, 3]⟩),
       O1 (some 8) 3 (.assign (t 30))]⟩ false)
     (.seq
      (.region 7 ⟨[O1 (some 31) 3 (.move (t 8)),
        O1 (some 32) 3 (.binOp .quo 3 (t 31) (ci 8) 3),
        O1 (some 33) 3 (.binOp .rem 3 (t 32) (ci 60) 3),
        O1 (some 34) 3 (.binOp .add 3 (ci 1) (t 33) 3),
        O1 (some 9) 3 (.assign (t 34))]⟩ false)
      (.seq
       (.region 8 ⟨[O1 (some 35) 3 (.move (t 8)),
         O1 (some 36) 3 (.binOp .rem 3 (t 35) (ci 8) 3)]⟩ false)
       (.block 2
        (.seq
         (.seq
          (.region 13 ⟨[O1 (some 58) 4 (.binOp .eql 3 (t 36) (ci 0) 3),
            O1 (some 57) 4 (.assign (t 58))]⟩ false)
          (.cond (t 57)
           .skip
           (.region 14 ⟨[O1 (some 59) 4 (.binOp .eql 3 (t 36) (ci 1) 3),
             O1 (some 57) 4 (.assign (t 59))]⟩ false)))
         (.cond (t 57)
          (.region 15 ⟨[O1 (some 60) 9 (.move (t 5)),
            O1 (some 61) 3 (.move (t 8)),
            O1 (some 62) 3 (.move (t 9)),
            O1 (some 63) 9 (.call ⟨(.value (.func 37)), #[(t 61), (t 62), (ci 1)], #[3, 3, 3]⟩),
            O1 (some 64) 9 (.binOp .add 9 (t 60) (t 63) 9),
            O1 (some 5) 9 (.assign (t 64))]⟩ false)
          (.seq
           (.seq
            (.region 16 ⟨[O1 (some 66) 4 (.binOp .eql 3 (t 36) (ci 2) 3),
              O1 (some 65) 4 (.assign (t 66))]⟩ false)
            (.cond (t 65)
             .skip
             (.seq
              (.region 17 ⟨[O1 (some 67) 4 (.binOp .eql 3 (t 36) (ci 3) 3),
                O1 (some 65) 4 (.assign (t 67))]⟩ false)
              (.cond (t 65)
               .skip
               (.region 18 ⟨[O1 (some 68) 4 (.binOp .eql 3 (t 36) (ci 4) 3),
                 O1 (some 65) 4 (.assign (t 68))]⟩ false)))))
           (.cond (t 65)
            (.seq
             (.region 19 ⟨[O1 (some 69) 9 (.move (t 5)),
               O1 (some 70) 3 (.call ⟨(.builtin .len), #[(t 69)], #[9]⟩),
               O1 (some 71) 3 (.binOp .sub 3 (t 70) (ci 1) 3),
               O1 (some 72) 3 (.move (t 8)),
               O1 (some 73) 3 (.binOp .quo 3 (t 72) (ci 512) 3),
               O1 (some 74) 3 (.binOp .rem 3 (t 73) (ci 200) 3),
               O1 (some 75) 3 (.binOp .sub 3 (t 71) (t 74) 3),
               O1 (some 10) 3 (.assign (t 75))]⟩ false)
             (.seq
              (.region 20 ⟨[O1 (some 11) 3 (.assign (ci 0))]⟩ false)
              (.block 5
               (.loop l20_0))))
            (.seq
             (.region 24 ⟨[O1 (some 97) 4 (.binOp .eql 3 (t 36) (ci 5) 3),
               O1 (some 96) 4 (.assign (t 97))]⟩ false)
             (.cond (t 96)
              (.region 25 ⟨[O1 (some 98) 9 (.move (t 5)),
                O1 (some 99) 3 (.move (t 8)),
                O1 (some 100) 3 (.move (t 9)),
                O1 (some 101) 9 (.call ⟨(.value (.func 37)), #[(t 99), (t 100), (ci 4)], #[3, 3, 3]⟩),
                O1 (some 102) 9 (.binOp .add 9 (t 98) (t 101) 9),
                O1 (some 5) 9 (.assign (t 102))]⟩ false)
              (.seq
               (.region 26 ⟨[O1 (some 104) 4 (.binOp .eql 3 (t 36) (ci 6) 3),
                 O1 (some 103) 4 (.assign (t 104))]⟩ false)
               (.cond (t 103)
                (.region 27 ⟨[O1 (some 105) 9 (.move (t 5)),
                  O1 (some 106) 3 (.move (t 8)),
                  O1 (some 107) 3 (.move (t 9)),
                  O1 (some 108) 3 (.binOp .quo 3 (t 107) (ci 3) 3),
                  O1 (some 109) 9 (.call ⟨(.value (.func 37)), #[(t 106), (t 108), (ci 256)], #[3, 3, 3]⟩),
                  O1 (some 110) 9 (.binOp .add 9 (t 105) (t 109) 9),
                  O1 (some 5) 9 (.assign (t 110))]⟩ false)
                (.seq
                 (.region 9 ⟨[O1 (some 12) 3 (.assign (ci 0))]⟩ false)
                 (.block 3
                  (.loop l20_1))))))))))))))))
   r20_2))
def r20_4 : Code :=
 (.seq
  (.region 28 ⟨[O1 (some 111) 9 (.move (t 5)),
    O1 (some 112) 9 (.move (t 5)),
    O1 (some 113) 3 (.call ⟨(.builtin .len), #[(t 112)], #[9]⟩),
    O1 (some 114) 3 (.move (t 1)),
    O1 (some 115) 3 (.call ⟨(.builtin .max), #[(t 114), (ci 0)], #[3, 3]⟩),
    O1 (some 116) 3 (.call ⟨(.builtin .min), #[(t 113), (t 115)], #[3, 3]⟩),
    O1 (some 117) 9 (.slice 9 (t 111) none (some (t 116)) none),
    O1 (some 4) 9 (.assign (t 117))]⟩ false)
  .ret)
def b20 : Code :=
 (.seq
  (.region 0 ⟨[O1 (some 4) 9 (.assign (cs []))]⟩ false)
  (.seq
   (.region 1 ⟨[O1 (some 5) 9 (.assign (cs []))]⟩ false)
   (.seq
    (.region 2 ⟨[O1 (some 13) 58 (.buildSlice 58 8 #[(0, (cs [116, 104, 101, 32])), (1, (cs [113, 117, 105, 99, 107, 32])), (2, (cs [98, 114, 111, 119, 110, 32])), (3, (cs [99, 104, 101, 101, 115, 101, 32])), (4, (cs [112, 114, 101, 115, 115, 32])), (5, (cs [97, 98])), (6, (cs [97, 98, 99])), (7, (cs [10]))]),
      O1 (some 6) 58 (.assign (t 13))]⟩ false)
    (.seq
     (.seq
      (.region 3 ⟨[O1 (some 7) 3 (.assign (ci 0))]⟩ false)
      (.block 0
       (.loop l20_3)))
     r20_4))))
theorem fn20 : (ctx.fn.get 20).map slimF = some ⟨118, [.tmp 4], b20⟩ := by kernel_rfl
theorem vl20_0 (tm : Tm) (y11 : Int) (y9 : Int) (y10 : Int) (y5 : List UInt8) (d : List AD) (h : H) (Q : AX → St → Prop) : wpC Try.prog ctx false l20_0 ⟨118, (Tb.set (Tb.set (Tb.set (Tb.set tm 11 (.int .i64 y11)) 9 (.int .i64 y9)) 10 (.int .i64 y10)) 5 (.str y5)), d, h⟩ (sealQ [4, 11, 9, 10, 5, 12, 6, 8, 7, 0, 1] Q) = (((y11 < y9 → (((0 : Int) ≤ y10 → ∃ (l0 : List UInt8), aslice ctx 9 h (.str y5) (some (.int .i64 (w64 (y10 + y11)))) (some (.int .i64 (w64 ((w64 (y10 + y11)) + (1 : Int))))) none = some (.str l0) ∧ (List.length y5 + List.length l0 ≤ 4611686018427387904 ∧ (∀ tm', getV tm' 4 = getV tm 4 → getV tm' 11 = (.int .i64 (w64 (y11 + (1 : Int)))) → getV tm' 9 = (.int .i64 y9) → getV tm' 10 = (.int .i64 y10) → getV tm' 5 = (.str (y5 ++ l0)) → getV tm' 12 = getV tm 12 → getV tm' 6 = getV tm 6 → getV tm' 8 = getV tm 8 → getV tm' 7 = getV tm 7 → getV tm' 0 = getV tm 0 → getV tm' 1 = getV tm 1 → Q .normal ⟨118, tm', d, h⟩))) ∧ (¬((0 : Int) ≤ y10) → (∀ tm', getV tm' 4 = getV tm 4 → getV tm' 11 = (.int .i64 y11) → getV tm' 9 = (.int .i64 y9) → getV tm' 10 = (.int .i64 y10) → getV tm' 5 = (.str y5) → getV tm' 12 = getV tm 12 → getV tm' 6 = getV tm 6 → getV tm' 8 = getV tm 8 → getV tm' 7 = getV tm 7 → getV tm' 0 = getV tm 0 → getV tm' 1 = getV tm 1 → Q (.exit 5) ⟨118, tm', d, h⟩)))) ∧ (¬(y11 < y9) → (∀ tm', getV tm' 4 = getV tm 4 → getV tm' 11 = (.int .i64 y11) → getV tm' 9 = (.int .i64 y9) → getV tm' 10 = (.int .i64 y10) → getV tm' 5 = (.str y5) → getV tm' 12 = getV tm 12 → getV tm' 6 = getV tm 6 → getV tm' 8 = getV tm 8 → getV tm' 7 = getV tm 7 → getV tm' 0 = getV tm 0 → getV tm' 1 = getV tm 1 → Q (.exit 5) ⟨118, tm', d, h⟩)))) := by kernel_rfl
theorem vl20_1 (tm : Tm) (y12 : Int) (y9 : Int) (y5 : List UInt8) (y6 : V) (y8 : Int) (d : List AD) (h : H) (Q : AX → St → Prop) : wpC Try.prog ctx false l20_1 ⟨118, (Tb.set (Tb.set (Tb.set (Tb.set (Tb.set tm 12 (.int .i64 y12)) 9 (.int .i64 y9)) 5 (.str y5)) 6 y6) 8 (.int .i64 y8)), d, h⟩ (sealQ [4, 11, 9, 10, 5, 12, 6, 8, 7, 0, 1] Q) = (((6 : Int) ≠ 0 ∧ ((y12 < (w64 (Int.tdiv y9 (6 : Int))) → ((8 : Int) ≠ 0 ∧ ∃ (x0 : Int), alen ctx 58 h y6 = some (.int .i64 x0) ∧ RF Try.prog ctx 7 [(.int .i64 (w64 ((w64 (Int.tdiv y8 (8 : Int))) + (w64 (y12 * y12))))), (.int .i64 x0)] h (fun v1 h2 => ∃ (x3 : Int), v1 = (.int .i64 x3) ∧ ∃ p4 o5, aidx ctx 58 y6 (.int .i64 x3) = some (.ptr p4 o5) ∧ ∃ (l6 : List UInt8), ald ctx 9 h2 (.ptr p4 o5) = some (.str l6) ∧ (List.length y5 + List.length l6 ≤ 4611686018427387904 ∧ (∀ tm', getV tm' 4 = getV tm 4 → getV tm' 11 = getV tm 11 → getV tm' 9 = (.int .i64 y9) → getV tm' 10 = getV tm 10 → getV tm' 5 = (.str (y5 ++ l6)) → getV tm' 12 = (.int .i64 (w64 (y12 + (1 : Int)))) → getV tm' 6 = y6 → getV tm' 8 = (.int .i64 y8) → getV tm' 7 = getV tm 7 → getV tm' 0 = getV tm 0 → getV tm' 1 = getV tm 1 → Q .normal ⟨118, tm', d, h2⟩))))) ∧ (¬(y12 < (w64 (Int.tdiv y9 (6 : Int)))) → (∀ tm', getV tm' 4 = getV tm 4 → getV tm' 11 = getV tm 11 → getV tm' 9 = (.int .i64 y9) → getV tm' 10 = getV tm 10 → getV tm' 5 = (.str y5) → getV tm' 12 = (.int .i64 y12) → getV tm' 6 = y6 → getV tm' 8 = (.int .i64 y8) → getV tm' 7 = getV tm 7 → getV tm' 0 = getV tm 0 → getV tm' 1 = getV tm 1 → Q (.exit 3) ⟨118, tm', d, h⟩))))) := by kernel_rfl
theorem vr20_2 (tm : Tm) (y7 : Int) (d : List AD) (h : H) (Q : AX → St → Prop) : wpC Try.prog ctx false r20_2 ⟨118, (Tb.set tm 7 (.int .i64 y7)), d, h⟩ (sealQ [4, 11, 9, 10, 5, 12, 6, 8, 7, 0, 1] Q) = ((∀ tm', getV tm' 4 = getV tm 4 → getV tm' 11 = getV tm 11 → getV tm' 9 = getV tm 9 → getV tm' 10 = getV tm 10 → getV tm' 5 = getV tm 5 → getV tm' 12 = getV tm 12 → getV tm' 6 = getV tm 6 → getV tm' 8 = getV tm 8 → getV tm' 7 = (.int .i64 (w64 (y7 + (1 : Int)))) → getV tm' 0 = getV tm 0 → getV tm' 1 = getV tm 1 → Q .normal ⟨118, tm', d, h⟩)) := by kernel_rfl
theorem vl20_3 (tm : Tm) (y7 : Int) (y0 : V) (y5 : List UInt8) (y1 : Int) (d : List AD) (h : H) (Q : AX → St → Prop) : wpC Try.prog ctx false l20_3 ⟨118, (Tb.set (Tb.set (Tb.set (Tb.set tm 7 (.int .i64 y7)) 0 y0) 5 (.str y5)) 1 (.int .i64 y1)), d, h⟩ (sealQ [4, 11, 9, 10, 5, 12, 6, 8, 7, 0, 1] Q) = (∃ (x0 : Int), alen ctx 22 h y0 = some (.int .i64 x0) ∧ ((y7 < x0 → (((Int.ofNat (List.length y5)) < y1 → ∃ p1 o2, aidx ctx 22 y0 (.int .i64 y7) = some (.ptr p1 o2) ∧ ∃ (x3 : Int), ald ctx 3 h (.ptr p1 o2) = some (.int .i64 x3) ∧ RF Try.prog ctx 7 [(.int .i64 x3), (.int .i64 (1073741824 : Int))] h (fun v4 h5 => ∃ (x6 : Int), v4 = (.int .i64 x6) ∧ ((8 : Int) ≠ 0 ∧ ((60 : Int) ≠ 0 ∧ ((8 : Int) ≠ 0 ∧ (((Int.tmod x6 (8 : Int)) = (0 : Int) → RF Try.prog ctx 37 [(.int .i64 x6), (.int .i64 (w64 ((1 : Int) + (Int.tmod (w64 (Int.tdiv x6 (8 : Int))) (60 : Int))))), (.int .i64 (1 : Int))] h5 (fun v7 h8 => ∃ (l9 : List UInt8), v7 = (.str l9) ∧ (List.length y5 + List.length l9 ≤ 4611686018427387904 ∧ (∀ tm', getV tm' 4 = getV tm 4 → getV tm' 11 = getV tm 11 → getV tm' 9 = (.int .i64 (w64 ((1 : Int) + (Int.tmod (w64 (Int.tdiv x6 (8 : Int))) (60 : Int))))) → getV tm' 10 = getV tm 10 → getV tm' 5 = (.str (y5 ++ l9)) → getV tm' 12 = getV tm 12 → getV tm' 6 = getV tm 6 → getV tm' 8 = (.int .i64 x6) → getV tm' 7 = (.int .i64 (w64 (y7 + (1 : Int)))) → getV tm' 0 = y0 → getV tm' 1 = (.int .i64 y1) → Q .normal ⟨118, tm', d, h8⟩)))) ∧ (¬((Int.tmod x6 (8 : Int)) = (0 : Int)) → (((Int.tmod x6 (8 : Int)) = (1 : Int) → RF Try.prog ctx 37 [(.int .i64 x6), (.int .i64 (w64 ((1 : Int) + (Int.tmod (w64 (Int.tdiv x6 (8 : Int))) (60 : Int))))), (.int .i64 (1 : Int))] h5 (fun v10 h11 => ∃ (l12 : List UInt8), v10 = (.str l12) ∧ (List.length y5 + List.length l12 ≤ 4611686018427387904 ∧ (∀ tm', getV tm' 4 = getV tm 4 → getV tm' 11 = getV tm 11 → getV tm' 9 = (.int .i64 (w64 ((1 : Int) + (Int.tmod (w64 (Int.tdiv x6 (8 : Int))) (60 : Int))))) → getV tm' 10 = getV tm 10 → getV tm' 5 = (.str (y5 ++ l12)) → getV tm' 12 = getV tm 12 → getV tm' 6 = getV tm 6 → getV tm' 8 = (.int .i64 x6) → getV tm' 7 = (.int .i64 (w64 (y7 + (1 : Int)))) → getV tm' 0 = y0 → getV tm' 1 = (.int .i64 y1) → Q .normal ⟨118, tm', d, h11⟩)))) ∧ (¬((Int.tmod x6 (8 : Int)) = (1 : Int)) → (((Int.tmod x6 (8 : Int)) = (2 : Int) → ((512 : Int) ≠ 0 ∧ ((200 : Int) ≠ 0 ∧ wpC Try.prog ctx false (.loop l20_0) ⟨118, (Tb.set (Tb.set (Tb.set (Tb.set (Tb.set (Tb.set (Tb.set (Tb.set (Tb.set (Tb.set (Tb.set (Tb.set (Tb.set (Tb.set (Tb.set (Tb.set (Tb.set (Tb.set (Tb.set (Tb.set (Tb.set (Tb.set (Tb.set (Tb.set (Tb.set (Tb.set (Tb.set (Tb.set (Tb.set (Tb.set (Tb.set (Tb.set (Tb.set (Tb.set (Tb.set (Tb.set (Tb.set (Tb.set (Tb.set (Tb.set (Tb.set (Tb.set tm 7 (.int .i64 y7)) 0 y0) 5 (.str y5)) 1 (.int .i64 y1)) 14 (.int .i64 y7)) 15 y0) 16 (.int .i64 x0)) 17 (.bool true)) 18 (.bool true)) 19 (.str y5)) 20 (.int .i64 (Int.ofNat (List.length y5)))) 21 (.int .i64 y1)) 22 (.bool true)) 23 (.bool true)) 26 y0) 27 (.int .i64 y7)) 28 (.ptr p1 o2)) 29 (.int .i64 x3)) 30 (.int .i64 x6)) 8 (.int .i64 x6)) 31 (.int .i64 x6)) 32 (.int .i64 (w64 (Int.tdiv x6 (8 : Int))))) 33 (.int .i64 (Int.tmod (w64 (Int.tdiv x6 (8 : Int))) (60 : Int)))) 34 (.int .i64 (w64 ((1 : Int) + (Int.tmod (w64 (Int.tdiv x6 (8 : Int))) (60 : Int)))))) 9 (.int .i64 (w64 ((1 : Int) + (Int.tmod (w64 (Int.tdiv x6 (8 : Int))) (60 : Int)))))) 35 (.int .i64 x6)) 36 (.int .i64 (Int.tmod x6 (8 : Int)))) 58 (.bool false)) 57 (.bool false)) 59 (.bool false)) 57 (.bool false)) 66 (.bool true)) 65 (.bool true)) 69 (.str y5)) 70 (.int .i64 (Int.ofNat (List.length y5)))) 71 (.int .i64 (w64 ((Int.ofNat (List.length y5)) - (1 : Int))))) 72 (.int .i64 x6)) 73 (.int .i64 (w64 (Int.tdiv x6 (512 : Int))))) 74 (.int .i64 (Int.tmod (w64 (Int.tdiv x6 (512 : Int))) (200 : Int)))) 75 (.int .i64 (w64 ((w64 ((Int.ofNat (List.length y5)) - (1 : Int))) - (Int.tmod (w64 (Int.tdiv x6 (512 : Int))) (200 : Int)))))) 10 (.int .i64 (w64 ((w64 ((Int.ofNat (List.length y5)) - (1 : Int))) - (Int.tmod (w64 (Int.tdiv x6 (512 : Int))) (200 : Int)))))) 11 (.int .i64 (0 : Int))), d, h5⟩ (fun e s1 => (fun e s1 => (fun e s1 => (thenC (fun s1 => wpC Try.prog ctx false r20_2 s1 (sealQ [4, 11, 9, 10, 5, 12, 6, 8, 7, 0, 1] Q)) (sealQ [4, 11, 9, 10, 5, 12, 6, 8, 7, 0, 1] Q)) (exitB 1 e) s1) (exitB 2 e) s1) (exitB 5 e) s1)))) ∧ (¬((Int.tmod x6 (8 : Int)) = (2 : Int)) → (((Int.tmod x6 (8 : Int)) = (3 : Int) → ((512 : Int) ≠ 0 ∧ ((200 : Int) ≠ 0 ∧ wpC Try.prog ctx false (.loop l20_0) ⟨118, (Tb.set (Tb.set (Tb.set (Tb.set (Tb.set (Tb.set (Tb.set (Tb.set (Tb.set (Tb.set (Tb.set (Tb.set (Tb.set (Tb.set (Tb.set (Tb.set (Tb.set (Tb.set (Tb.set (Tb.set (Tb.set (Tb.set (Tb.set (Tb.set (Tb.set (Tb.set (Tb.set (Tb.set (Tb.set (Tb.set (Tb.set (Tb.set (Tb.set (Tb.set (Tb.set (Tb.set (Tb.set (Tb.set (Tb.set (Tb.set (Tb.set (Tb.set (Tb.set (Tb.set tm 7 (.int .i64 y7)) 0 y0) 5 (.str y5)) 1 (.int .i64 y1)) 14 (.int .i64 y7)) 15 y0) 16 (.int .i64 x0)) 17 (.bool true)) 18 (.bool true)) 19 (.str y5)) 20 (.int .i64 (Int.ofNat (List.length y5)))) 21 (.int .i64 y1)) 22 (.bool true)) 23 (.bool true)) 26 y0) 27 (.int .i64 y7)) 28 (.ptr p1 o2)) 29 (.int .i64 x3)) 30 (.int .i64 x6)) 8 (.int .i64 x6)) 31 (.int .i64 x6)) 32 (.int .i64 (w64 (Int.tdiv x6 (8 : Int))))) 33 (.int .i64 (Int.tmod (w64 (Int.tdiv x6 (8 : Int))) (60 : Int)))) 34 (.int .i64 (w64 ((1 : Int) + (Int.tmod (w64 (Int.tdiv x6 (8 : Int))) (60 : Int)))))) 9 (.int .i64 (w64 ((1 : Int) + (Int.tmod (w64 (Int.tdiv x6 (8 : Int))) (60 : Int)))))) 35 (.int .i64 x6)) 36 (.int .i64 (Int.tmod x6 (8 : Int)))) 58 (.bool false)) 57 (.bool false)) 59 (.bool false)) 57 (.bool false)) 66 (.bool false)) 65 (.bool false)) 67 (.bool true)) 65 (.bool true)) 69 (.str y5)) 70 (.int .i64 (Int.ofNat (List.length y5)))) 71 (.int .i64 (w64 ((Int.ofNat (List.length y5)) - (1 : Int))))) 72 (.int .i64 x6)) 73 (.int .i64 (w64 (Int.tdiv x6 (512 : Int))))) 74 (.int .i64 (Int.tmod (w64 (Int.tdiv x6 (512 : Int))) (200 : Int)))) 75 (.int .i64 (w64 ((w64 ((Int.ofNat (List.length y5)) - (1 : Int))) - (Int.tmod (w64 (Int.tdiv x6 (512 : Int))) (200 : Int)))))) 10 (.int .i64 (w64 ((w64 ((Int.ofNat (List.length y5)) - (1 : Int))) - (Int.tmod (w64 (Int.tdiv x6 (512 : Int))) (200 : Int)))))) 11 (.int .i64 (0 : Int))), d, h5⟩ (fun e s1 => (fun e s1 => (fun e s1 => (thenC (fun s1 => wpC Try.prog ctx false r20_2 s1 (sealQ [4, 11, 9, 10, 5, 12, 6, 8, 7, 0, 1] Q)) (sealQ [4, 11, 9, 10, 5, 12, 6, 8, 7, 0, 1] Q)) (exitB 1 e) s1) (exitB 2 e) s1) (exitB 5 e) s1)))) ∧ (¬((Int.tmod x6 (8 : Int)) = (3 : Int)) → (((Int.tmod x6 (8 : Int)) = (4 : Int) → ((512 : Int) ≠ 0 ∧ ((200 : Int) ≠ 0 ∧ wpC Try.prog ctx false (.loop l20_0) ⟨118, (Tb.set (Tb.set (Tb.set (Tb.set (Tb.set (Tb.set (Tb.set (Tb.set (Tb.set (Tb.set (Tb.set (Tb.set (Tb.set (Tb.set (Tb.set (Tb.set (Tb.set (Tb.set (Tb.set (Tb.set (Tb.set (Tb.set (Tb.set (Tb.set (Tb.set (Tb.set (Tb.set (Tb.set (Tb.set (Tb.set (Tb.set (Tb.set (Tb.set (Tb.set (Tb.set (Tb.set (Tb.set (Tb.set (Tb.set (Tb.set (Tb.set (Tb.set (Tb.set (Tb.set (Tb.set (Tb.set tm 7 (.int .i64 y7)) 0 y0) 5 (.str y5)) 1 (.int .i64 y1)) 14 (.int .i64 y7)) 15 y0) 16 (.int .i64 x0)) 17 (.bool true)) 18 (.bool true)) 19 (.str y5)) 20 (.int .i64 (Int.ofNat (List.length y5)))) 21 (.int .i64 y1)) 22 (.bool true)) 23 (.bool true)) 26 y0) 27 (.int .i64 y7)) 28 (.ptr p1 o2)) 29 (.int .i64 x3)) 30 (.int .i64 x6)) 8 (.int .i64 x6)) 31 (.int .i64 x6)) 32 (.int .i64 (w64 (Int.tdiv x6 (8 : Int))))) 33 (.int .i64 (Int.tmod (w64 (Int.tdiv x6 (8 : Int))) (60 : Int)))) 34 (.int .i64 (w64 ((1 : Int) + (Int.tmod (w64 (Int.tdiv x6 (8 : Int))) (60 : Int)))))) 9 (.int .i64 (w64 ((1 : Int) + (Int.tmod (w64 (Int.tdiv x6 (8 : Int))) (60 : Int)))))) 35 (.int .i64 x6)) 36 (.int .i64 (Int.tmod x6 (8 : Int)))) 58 (.bool false)) 57 (.bool false)) 59 (.bool false)) 57 (.bool false)) 66 (.bool false)) 65 (.bool false)) 67 (.bool false)) 65 (.bool false)) 68 (.bool true)) 65 (.bool true)) 69 (.str y5)) 70 (.int .i64 (Int.ofNat (List.length y5)))) 71 (.int .i64 (w64 ((Int.ofNat (List.length y5)) - (1 : Int))))) 72 (.int .i64 x6)) 73 (.int .i64 (w64 (Int.tdiv x6 (512 : Int))))) 74 (.int .i64 (Int.tmod (w64 (Int.tdiv x6 (512 : Int))) (200 : Int)))) 75 (.int .i64 (w64 ((w64 ((Int.ofNat (List.length y5)) - (1 : Int))) - (Int.tmod (w64 (Int.tdiv x6 (512 : Int))) (200 : Int)))))) 10 (.int .i64 (w64 ((w64 ((Int.ofNat (List.length y5)) - (1 : Int))) - (Int.tmod (w64 (Int.tdiv x6 (512 : Int))) (200 : Int)))))) 11 (.int .i64 (0 : Int))), d, h5⟩ (fun e s1 => (fun e s1 => (fun e s1 => (thenC (fun s1 => wpC Try.prog ctx false r20_2 s1 (sealQ [4, 11, 9, 10, 5, 12, 6, 8, 7, 0, 1] Q)) (sealQ [4, 11, 9, 10, 5, 12, 6, 8, 7, 0, 1] Q)) (exitB 1 e) s1) (exitB 2 e) s1) (exitB 5 e) s1)))) ∧ (¬((Int.tmod x6 (8 : Int)) = (4 : Int)) → (((Int.tmod x6 (8 : Int)) = (5 : Int) → RF Try.prog ctx 37 [(.int .i64 x6), (.int .i64 (w64 ((1 : Int) + (Int.tmod (w64 (Int.tdiv x6 (8 : Int))) (60 : Int))))), (.int .i64 (4 : Int))] h5 (fun v13 h14 => ∃ (l15 : List UInt8), v13 = (.str l15) ∧ (List.length y5 + List.length l15 ≤ 4611686018427387904 ∧ (∀ tm', getV tm' 4 = getV tm 4 → getV tm' 11 = getV tm 11 → getV tm' 9 = (.int .i64 (w64 ((1 : Int) + (Int.tmod (w64 (Int.tdiv x6 (8 : Int))) (60 : Int))))) → getV tm' 10 = getV tm 10 → getV tm' 5 = (.str (y5 ++ l15)) → getV tm' 12 = getV tm 12 → getV tm' 6 = getV tm 6 → getV tm' 8 = (.int .i64 x6) → getV tm' 7 = (.int .i64 (w64 (y7 + (1 : Int)))) → getV tm' 0 = y0 → getV tm' 1 = (.int .i64 y1) → Q .normal ⟨118, tm', d, h14⟩)))) ∧ (¬((Int.tmod x6 (8 : Int)) = (5 : Int)) → (((Int.tmod x6 (8 : Int)) = (6 : Int) → ((3 : Int) ≠ 0 ∧ RF Try.prog ctx 37 [(.int .i64 x6), (.int .i64 (w64 (Int.tdiv (w64 ((1 : Int) + (Int.tmod (w64 (Int.tdiv x6 (8 : Int))) (60 : Int)))) (3 : Int)))), (.int .i64 (256 : Int))] h5 (fun v16 h17 => ∃ (l18 : List UInt8), v16 = (.str l18) ∧ (List.length y5 + List.length l18 ≤ 4611686018427387904 ∧ (∀ tm', getV tm' 4 = getV tm 4 → getV tm' 11 = getV tm 11 → getV tm' 9 = (.int .i64 (w64 ((1 : Int) + (Int.tmod (w64 (Int.tdiv x6 (8 : Int))) (60 : Int))))) → getV tm' 10 = getV tm 10 → getV tm' 5 = (.str (y5 ++ l18)) → getV tm' 12 = getV tm 12 → getV tm' 6 = getV tm 6 → getV tm' 8 = (.int .i64 x6) → getV tm' 7 = (.int .i64 (w64 (y7 + (1 : Int)))) → getV tm' 0 = y0 → getV tm' 1 = (.int .i64 y1) → Q .normal ⟨118, tm', d, h17⟩))))) ∧ (¬((Int.tmod x6 (8 : Int)) = (6 : Int)) → wpC Try.prog ctx false (.loop l20_1) ⟨118, (Tb.set (Tb.set (Tb.set (Tb.set (Tb.set (Tb.set (Tb.set (Tb.set (Tb.set (Tb.set (Tb.set (Tb.set (Tb.set (Tb.set (Tb.set (Tb.set (Tb.set (Tb.set (Tb.set (Tb.set (Tb.set (Tb.set (Tb.set (Tb.set (Tb.set (Tb.set (Tb.set (Tb.set (Tb.set (Tb.set (Tb.set (Tb.set (Tb.set (Tb.set (Tb.set (Tb.set (Tb.set (Tb.set (Tb.set (Tb.set (Tb.set (Tb.set tm 7 (.int .i64 y7)) 0 y0) 5 (.str y5)) 1 (.int .i64 y1)) 14 (.int .i64 y7)) 15 y0) 16 (.int .i64 x0)) 17 (.bool true)) 18 (.bool true)) 19 (.str y5)) 20 (.int .i64 (Int.ofNat (List.length y5)))) 21 (.int .i64 y1)) 22 (.bool true)) 23 (.bool true)) 26 y0) 27 (.int .i64 y7)) 28 (.ptr p1 o2)) 29 (.int .i64 x3)) 30 (.int .i64 x6)) 8 (.int .i64 x6)) 31 (.int .i64 x6)) 32 (.int .i64 (w64 (Int.tdiv x6 (8 : Int))))) 33 (.int .i64 (Int.tmod (w64 (Int.tdiv x6 (8 : Int))) (60 : Int)))) 34 (.int .i64 (w64 ((1 : Int) + (Int.tmod (w64 (Int.tdiv x6 (8 : Int))) (60 : Int)))))) 9 (.int .i64 (w64 ((1 : Int) + (Int.tmod (w64 (Int.tdiv x6 (8 : Int))) (60 : Int)))))) 35 (.int .i64 x6)) 36 (.int .i64 (Int.tmod x6 (8 : Int)))) 58 (.bool false)) 57 (.bool false)) 59 (.bool false)) 57 (.bool false)) 66 (.bool false)) 65 (.bool false)) 67 (.bool false)) 65 (.bool false)) 68 (.bool false)) 65 (.bool false)) 97 (.bool false)) 96 (.bool false)) 104 (.bool false)) 103 (.bool false)) 12 (.int .i64 (0 : Int))), d, h5⟩ (fun e s1 => (fun e s1 => (fun e s1 => (thenC (fun s1 => wpC Try.prog ctx false r20_2 s1 (sealQ [4, 11, 9, 10, 5, 12, 6, 8, 7, 0, 1] Q)) (sealQ [4, 11, 9, 10, 5, 12, 6, 8, 7, 0, 1] Q)) (exitB 1 e) s1) (exitB 2 e) s1) (exitB 3 e) s1)))))))))))))))))))) ∧ (¬((Int.ofNat (List.length y5)) < y1) → (∀ tm', getV tm' 4 = getV tm 4 → getV tm' 11 = getV tm 11 → getV tm' 9 = getV tm 9 → getV tm' 10 = getV tm 10 → getV tm' 5 = (.str y5) → getV tm' 12 = getV tm 12 → getV tm' 6 = getV tm 6 → getV tm' 8 = getV tm 8 → getV tm' 7 = (.int .i64 y7) → getV tm' 0 = y0 → getV tm' 1 = (.int .i64 y1) → Q (.exit 0) ⟨118, tm', d, h⟩)))) ∧ (¬(y7 < x0) → (∀ tm', getV tm' 4 = getV tm 4 → getV tm' 11 = getV tm 11 → getV tm' 9 = getV tm 9 → getV tm' 10 = getV tm 10 → getV tm' 5 = (.str y5) → getV tm' 12 = getV tm 12 → getV tm' 6 = getV tm 6 → getV tm' 8 = getV tm 8 → getV tm' 7 = (.int .i64 y7) → getV tm' 0 = y0 → getV tm' 1 = (.int .i64 y1) → Q (.exit 0) ⟨118, tm', d, h⟩)))) := by kernel_rfl
theorem vr20_4 (tm : Tm) (y5 : List UInt8) (y1 : Int) (d : List AD) (h : H) (Q : AX → St → Prop) : wpC Try.prog ctx false r20_4 ⟨118, (Tb.set (Tb.set tm 5 (.str y5)) 1 (.int .i64 y1)), d, h⟩ (sealQ [4, 11, 9, 10, 5, 12, 6, 8, 7, 0, 1] Q) = (∃ (l0 : List UInt8), aslice ctx 9 h (.str y5) none (some (.int .i64 (min (Int.ofNat (List.length y5)) (max y1 (0 : Int))))) none = some (.str l0) ∧ (∀ tm', getV tm' 4 = (.str l0) → getV tm' 11 = getV tm 11 → getV tm' 9 = getV tm 9 → getV tm' 10 = getV tm 10 → getV tm' 5 = (.str y5) → getV tm' 12 = getV tm 12 → getV tm' 6 = getV tm 6 → getV tm' 8 = getV tm 8 → getV tm' 7 = getV tm 7 → getV tm' 0 = getV tm 0 → getV tm' 1 = (.int .i64 y1) → Q .ret ⟨118, tm', d, h⟩)) := by kernel_rfl
theorem vb20 (a0 : V) (a1 : Int) (h : H) (Q : V → H → Prop) : wpC Try.prog ctx false b20 ⟨118, setArgs [a0, (.int .i64 a1)] 0 (Tb.leaf undefV), [], h⟩ (endW ctx ⟨118, [.tmp 4], b20⟩ Q) = (∃ v0 h1, abuildSlice ctx 58 8 [(0, (.str [116, 104, 101, 32])), (1, (.str [113, 117, 105, 99, 107, 32])), (2, (.str [98, 114, 111, 119, 110, 32])), (3, (.str [99, 104, 101, 101, 115, 101, 32])), (4, (.str [112, 114, 101, 115, 115, 32])), (5, (.str [97, 98])), (6, (.str [97, 98, 99])), (7, (.str [10]))] h = some (v0, h1) ∧ wpC Try.prog ctx false (.loop l20_3) ⟨118, (Tb.set (Tb.set (Tb.set (Tb.set (Tb.set (Tb.set (Tb.set (Tb.leaf undefV) 0 a0) 1 (.int .i64 a1)) 4 (.str [])) 5 (.str [])) 13 v0) 6 v0) 7 (.int .i64 (0 : Int))), [], h1⟩ (fun e s1 => (thenC (fun s1 => wpC Try.prog ctx false r20_4 s1 (endW ctx ⟨118, [.tmp 4], b20⟩ Q)) (endW ctx ⟨118, [.tmp 4], b20⟩ Q)) (exitB 0 e) s1)) := by kernel_rfl

/- cheesepress/jobs.Table -/
def b21 : Code :=
 (.seq
  (.region 0 ⟨[O1 (some 2) 0 (.box 24 (t 0)),
    O1 (some 4) 27 (.assign (.const (.slice none 0 0))),
    O1 (some 5) 28 (.assign (ci 0))]⟩ false)
  (.seq
   (.region 1 ⟨[O1 (some 9) 24 (.load 24 (t 2)),
     O1 (some 10) 9 (.move (t 1)),
     O1 (some 11) 39 (.call ⟨(.value (.func 38)), #[(t 9), (t 10)], #[24, 9]⟩),
     O1 (some 8) 39 (.move (t 11)),
     O1 (some 12) 22 (.extract (t 8) 0),
     O1 (some 13) 28 (.extract (t 8) 1),
     O1 (some 6) 22 (.assign (t 12)),
     O1 (some 7) 28 (.assign (t 13))]⟩ false)
   (.seq
    (.seq
     (.region 2 ⟨[O1 (some 14) 28 (.move (t 7)),
       O1 (some 15) 4 (.binOp .neq 28 (t 14) (ci 0) 28)]⟩ false)
     (.cond (t 15)
      (.seq
       (.region 3 ⟨[O1 (some 16) 28 (.move (t 7)),
         O1 (some 4) 27 (.assign (.const (.slice none 0 0))),
         O1 (some 5) 28 (.assign (t 16))]⟩ false)
       .ret)
      .skip))
    (.seq
     (.region 4 ⟨[O1 (some 17) 24 (.load 24 (t 2)),
       O1 (some 18) 22 (.move (t 6)),
       O1 (some 19) 27 (.call ⟨(.value (.func 27)), #[(t 17), (t 18)], #[24, 22]⟩),
       O1 (some 4) 27 (.assign (t 19)),
       O1 (some 5) 28 (.assign (ci 0))]⟩ false)
     .ret))))
theorem fn21 : (ctx.fn.get 21).map slimF = some ⟨20, [.tmp 4, .tmp 5], b21⟩ := by kernel_rfl
theorem vb21 (a0_0 : Int) (a0_1 : Int) (a0_2 : Int) (a0_3 : Int) (a0_4 : Bool) (a0_5 : Bool) (a1 : List UInt8) (h : H) (Q : V → H → Prop) : wpC Try.prog ctx false b21 ⟨20, setArgs [(.agg [(.int .i64 a0_0), (.int .i64 a0_1), (.int .i64 a0_2), (.int .i64 a0_3), (.bool a0_4), (.bool a0_5)]), (.str a1)] 0 (Tb.leaf undefV), [], h⟩ (endW ctx ⟨20, [.tmp 4, .tmp 5], b21⟩ Q) = ((h.next < T.top ∧ ∀ p0 h1, p0 = h.next → h1 = h.new (.cells (.ls [(.int .i64 a0_0), (.int .i64 a0_1), (.int .i64 a0_2), (.int .i64 a0_3), (.bool a0_4), (.bool a0_5)]) ⟨0, 25, 0⟩ true false) → ∃ (x2 : Int) (x3 : Int) (x4 : Int) (x5 : Int) (b6 : Bool) (b7 : Bool), ald ctx 24 h1 (.ptr p0 0) = some (.agg [(.int .i64 x2), (.int .i64 x3), (.int .i64 x4), (.int .i64 x5), (.bool b6), (.bool b7)]) ∧ RF Try.prog ctx 38 [(.agg [(.int .i64 x2), (.int .i64 x3), (.int .i64 x4), (.int .i64 x5), (.bool b6), (.bool b7)]), (.str a1)] h1 (fun v8 h9 => ∃ (v10 : V) (x11 : Int), v8 = (.tuple [v10, (.int .i64 x11)]) ∧ ((x11 ≠ (0 : Int) → Q (.tuple [.nilslice, (.int .i64 x11)]) h9) ∧ (¬(x11 ≠ (0 : Int)) → ∃ (x12 : Int) (x13 : Int) (x14 : Int) (x15 : Int) (b16 : Bool) (b17 : Bool), ald ctx 24 h9 (.ptr p0 0) = some (.agg [(.int .i64 x12), (.int .i64 x13), (.int .i64 x14), (.int .i64 x15), (.bool b16), (.bool b17)]) ∧ RF Try.prog ctx 27 [(.agg [(.int .i64 x12), (.int .i64 x13), (.int .i64 x14), (.int .i64 x15), (.bool b16), (.bool b17)]), v10] h9 (fun v18 h19 => ∃ (v20 : V), v18 = v20 ∧ Q (.tuple [v20, (.int .i64 (0 : Int))]) h19)))))) := by kernel_rfl

/- cheesepress/cheesepressref21.Prefix -/
def l22_0 : Code :=
 (.seq
  (.seq
   (.region 5 ⟨[O1 (some 22) 3 (.move (t 6)),
     O1 (some 23) 4 (.binOp .lss 3 (t 22) (ci 9) 3)]⟩ false)
   (.cond (t 23)
    .skip
    (.exit 0)))
  (.seq
   (.block 1
    (.region 7 ⟨[O1 (some 26) 3 (.move (t 4)),
      O1 (some 27) 3 (.binOp .quo 3 (t 26) (ci 2) 3),
      O1 (some 4) 3 (.assign (t 27))]⟩ false))
   (.region 6 ⟨[O1 (some 24) 3 (.move (t 6)),
     O1 (some 25) 3 (.binOp .add 3 (t 24) (ci 1) 3),
     O1 (some 6) 3 (.assign (t 25))]⟩ false)))
def r22_1 : Code :=
 (.seq
  (.region 8 ⟨[O1 (some 28) 3 (.move (t 4)),
    O1 (some 2) 3 (.assign (t 28)),
    O1 (some 3) 28 (.assign (ci 0))]⟩ false)
  .ret)
def b22 : Code :=
 (.seq
  (.region 0 ⟨[O1 (some 1) 0 (.box 24 (t 0)),
    O1 (some 2) 3 (.assign (ci 0)),
    O1 (some 3) 28 (.assign (ci 0))]⟩ false)
  (.seq
   (.region 1 ⟨[O1 (some 8) 24 (.load 24 (t 1)),
     O1 (some 9) 46 (.call ⟨(.value (.func 39)), #[(t 8)], #[24]⟩),
     O1 (some 7) 46 (.move (t 9)),
     O1 (some 10) 3 (.extract (t 7) 0),
     O1 (some 11) 28 (.extract (t 7) 1),
     O1 (some 4) 3 (.assign (t 10)),
     O1 (some 5) 28 (.assign (t 11))]⟩ false)
   (.seq
    (.seq
     (.region 2 ⟨[O1 (some 12) 28 (.move (t 5)),
       O1 (some 13) 4 (.binOp .neq 28 (t 12) (ci 0) 28),
       O1 (some 14) 4 (.move (t 13)),
       O2 (some 15) 0 (.fieldAddr 24 (t 1) 3) (2, false),
       O2 (some 16) 3 (.load 3 (t 15)) (2, false),
       O2 (some 17) 4 (.binOp .eql 3 (t 16) (ci 0) 3) (2, false),
       O1 (some 18) 4 (.pick (t 14) (.const (.bool true)) (t 17))]⟩ false)
     (.cond (t 18)
      (.seq
       (.region 3 ⟨[O1 (some 19) 28 (.move (t 5)),
         O1 (some 2) 3 (.assign (ci 0)),
         O1 (some 3) 28 (.assign (t 19))]⟩ false)
       .ret)
      .skip))
    (.seq
     (.seq
      (.region 4 ⟨[O1 (some 20) 0 (.fieldAddr 24 (t 1) 3),
        O1 (some 21) 3 (.load 3 (t 20)),
        O1 (some 6) 3 (.assign (t 21))]⟩ false)
      (.block 0
       (.loop l22_0)))
     r22_1))))
theorem fn22 : (ctx.fn.get 22).map slimF = some ⟨29, [.tmp 2, .tmp 3], b22⟩ := by kernel_rfl
theorem vl22_0 (tm : Tm) (y6 : Int) (y4 : Int) (d : List AD) (h : H) (Q : AX → St → Prop) : wpC Try.prog ctx false l22_0 ⟨29, (Tb.set (Tb.set tm 6 (.int .i64 y6)) 4 (.int .i64 y4)), d, h⟩ (sealQ [2, 3, 6, 4] Q) = (((y6 < (9 : Int) → ((2 : Int) ≠ 0 ∧ (∀ tm', getV tm' 2 = getV tm 2 → getV tm' 3 = getV tm 3 → getV tm' 6 = (.int .i64 (w64 (y6 + (1 : Int)))) → getV tm' 4 = (.int .i64 (w64 (Int.tdiv y4 (2 : Int)))) → Q .normal ⟨29, tm', d, h⟩))) ∧ (¬(y6 < (9 : Int)) → (∀ tm', getV tm' 2 = getV tm 2 → getV tm' 3 = getV tm 3 → getV tm' 6 = (.int .i64 y6) → getV tm' 4 = (.int .i64 y4) → Q (.exit 0) ⟨29, tm', d, h⟩)))) := by kernel_rfl
theorem vr22_1 (tm : Tm) (y4 : Int) (d : List AD) (h : H) (Q : AX → St → Prop) : wpC Try.prog ctx false r22_1 ⟨29, (Tb.set tm 4 (.int .i64 y4)), d, h⟩ (sealQ [2, 3, 6, 4] Q) = ((∀ tm', getV tm' 2 = (.int .i64 y4) → getV tm' 3 = (.int .i64 (0 : Int)) → getV tm' 6 = getV tm 6 → getV tm' 4 = (.int .i64 y4) → Q .ret ⟨29, tm', d, h⟩)) := by kernel_rfl
theorem vb22 (a0_0 : Int) (a0_1 : Int) (a0_2 : Int) (a0_3 : Int) (a0_4 : Bool) (a0_5 : Bool) (h : H) (Q : V → H → Prop) : wpC Try.prog ctx false b22 ⟨29, setArgs [(.agg [(.int .i64 a0_0), (.int .i64 a0_1), (.int .i64 a0_2), (.int .i64 a0_3), (.bool a0_4), (.bool a0_5)])] 0 (Tb.leaf undefV), [], h⟩ (endW ctx ⟨29, [.tmp 2, .tmp 3], b22⟩ Q) = ((h.next < T.top ∧ ∀ p0 h1, p0 = h.next → h1 = h.new (.cells (.ls [(.int .i64 a0_0), (.int .i64 a0_1), (.int .i64 a0_2), (.int .i64 a0_3), (.bool a0_4), (.bool a0_5)]) ⟨0, 25, 0⟩ true false) → ∃ (x2 : Int) (x3 : Int) (x4 : Int) (x5 : Int) (b6 : Bool) (b7 : Bool), ald ctx 24 h1 (.ptr p0 0) = some (.agg [(.int .i64 x2), (.int .i64 x3), (.int .i64 x4), (.int .i64 x5), (.bool b6), (.bool b7)]) ∧ RF Try.prog ctx 39 [(.agg [(.int .i64 x2), (.int .i64 x3), (.int .i64 x4), (.int .i64 x5), (.bool b6), (.bool b7)])] h1 (fun v8 h9 => ∃ (x10 : Int) (x11 : Int), v8 = (.tuple [(.int .i64 x10), (.int .i64 x11)]) ∧ ((x11 ≠ (0 : Int) → Q (.tuple [(.int .i64 (0 : Int)), (.int .i64 x11)]) h9) ∧ (¬(x11 ≠ (0 : Int)) → ∃ (x12 : Int), ald ctx 3 h9 (.ptr p0 (0 + 3)) = some (.int .i64 x12) ∧ ((x12 = (0 : Int) → Q (.tuple [(.int .i64 (0 : Int)), (.int .i64 x11)]) h9) ∧ (¬(x12 = (0 : Int)) → ∃ (x13 : Int), ald ctx 3 h9 (.ptr p0 (0 + 3)) = some (.int .i64 x13) ∧ wpC Try.prog ctx false (.loop l22_0) ⟨29, (Tb.set (Tb.set (Tb.set (Tb.set (Tb.set (Tb.set (Tb.set (Tb.set (Tb.set (Tb.set (Tb.set (Tb.set (Tb.set (Tb.set (Tb.set (Tb.set (Tb.set (Tb.set (Tb.set (Tb.set (Tb.set (Tb.leaf undefV) 0 (.agg [(.int .i64 a0_0), (.int .i64 a0_1), (.int .i64 a0_2), (.int .i64 a0_3), (.bool a0_4), (.bool a0_5)])) 1 (.ptr p0 0)) 2 (.int .i64 (0 : Int))) 3 (.int .i64 (0 : Int))) 8 (.agg [(.int .i64 x2), (.int .i64 x3), (.int .i64 x4), (.int .i64 x5), (.bool b6), (.bool b7)])) 9 (.tuple [(.int .i64 x10), (.int .i64 x11)])) 7 (.tuple [(.int .i64 x10), (.int .i64 x11)])) 10 (.int .i64 x10)) 11 (.int .i64 x11)) 4 (.int .i64 x10)) 5 (.int .i64 x11)) 12 (.int .i64 x11)) 13 (.bool false)) 14 (.bool false)) 15 (.ptr p0 (0 + 3))) 16 (.int .i64 x12)) 17 (.bool false)) 18 (.bool false)) 20 (.ptr p0 (0 + 3))) 21 (.int .i64 x13)) 6 (.int .i64 x13)), [], h9⟩ (fun e s1 => (thenC (fun s1 => wpC Try.prog ctx false r22_1 s1 (endW ctx ⟨29, [.tmp 2, .tmp 3], b22⟩ Q)) (endW ctx ⟨29, [.tmp 2, .tmp 3], b22⟩ Q)) (exitB 0 e) s1)))))))) := by kernel_rfl

/- cheesepress/params.Check -/
def b23 : Code :=
 (.seq
  (.region 0 ⟨[O1 (some 1) 0 (.box 24 (t 0)),
    O1 (some 2) 28 (.assign (ci 0))]⟩ false)
  (.seq
   (.seq
    (.region 1 ⟨[O1 (some 3) 0 (.fieldAddr 24 (t 1) 0),
      O1 (some 4) 3 (.load 3 (t 3)),
      O1 (some 5) 4 (.call ⟨(.value (.func 40)), #[(t 4), (ci 1), (ci 9)], #[3, 3, 3]⟩),
      O1 (some 6) 4 (.unOp .not 4 (t 5)),
      O1 (some 7) 4 (.move (t 6)),
      O2 (some 8) 0 (.fieldAddr 24 (t 1) 1) (4, false),
      O2 (some 9) 3 (.load 3 (t 8)) (4, false),
      O2 (some 10) 4 (.call ⟨(.value (.func 40)), #[(t 9), (ci 10), (ci 27)], #[3, 3, 3]⟩) (4, false),
      O2 (some 11) 4 (.unOp .not 4 (t 10)) (4, false),
      O1 (some 12) 4 (.pick (t 7) (.const (.bool true)) (t 11)),
      O1 (some 13) 4 (.move (t 12)),
      O2 (some 14) 0 (.fieldAddr 24 (t 1) 2) (10, false),
      O2 (some 15) 3 (.load 3 (t 14)) (10, false),
      O2 (some 16) 4 (.call ⟨(.value (.func 40)), #[(t 15), (ci 16), (ci 2097152)], #[3, 3, 3]⟩) (10, false),
      O2 (some 17) 4 (.unOp .not 4 (t 16)) (10, false),
      O1 (some 18) 4 (.pick (t 13) (.const (.bool true)) (t 17)),
      O1 (some 19) 4 (.move (t 18)),
      O2 (some 20) 0 (.fieldAddr 24 (t 1) 3) (16, false),
      O2 (some 21) 3 (.load 3 (t 20)) (16, false),
      O2 (some 22) 4 (.call ⟨(.value (.func 40)), #[(t 21), (ci 0), (ci 9)], #[3, 3, 3]⟩) (16, false),
      O2 (some 23) 4 (.unOp .not 4 (t 22)) (16, false),
      O1 (some 24) 4 (.pick (t 19) (.const (.bool true)) (t 23))]⟩ false)
    (.cond (t 24)
     (.seq
      (.region 2 ⟨[O1 (some 2) 28 (.assign (ci 2))]⟩ false)
      .ret)
     .skip))
   (.seq
    (.region 3 ⟨[O1 (some 2) 28 (.assign (ci 0))]⟩ false)
    .ret)))
theorem fn23 : (ctx.fn.get 23).map slimF = some ⟨25, [.tmp 2], b23⟩ := by kernel_rfl
theorem vb23 (a0_0 : Int) (a0_1 : Int) (a0_2 : Int) (a0_3 : Int) (a0_4 : Bool) (a0_5 : Bool) (h : H) (Q : V → H → Prop) : wpC Try.prog ctx false b23 ⟨25, setArgs [(.agg [(.int .i64 a0_0), (.int .i64 a0_1), (.int .i64 a0_2), (.int .i64 a0_3), (.bool a0_4), (.bool a0_5)])] 0 (Tb.leaf undefV), [], h⟩ (endW ctx ⟨25, [.tmp 2], b23⟩ Q) = ((h.next < T.top ∧ ∀ p0 h1, p0 = h.next → h1 = h.new (.cells (.ls [(.int .i64 a0_0), (.int .i64 a0_1), (.int .i64 a0_2), (.int .i64 a0_3), (.bool a0_4), (.bool a0_5)]) ⟨0, 25, 0⟩ true false) → ∃ (x2 : Int), ald ctx 3 h1 (.ptr p0 (0 + 0)) = some (.int .i64 x2) ∧ RF Try.prog ctx 40 [(.int .i64 x2), (.int .i64 (1 : Int)), (.int .i64 (9 : Int))] h1 (fun v3 h4 => ∃ (b5 : Bool), v3 = (.bool b5) ∧ ((b5 = true → ∃ (x6 : Int), ald ctx 3 h4 (.ptr p0 (0 + 1)) = some (.int .i64 x6) ∧ RF Try.prog ctx 40 [(.int .i64 x6), (.int .i64 (10 : Int)), (.int .i64 (27 : Int))] h4 (fun v7 h8 => ∃ (b9 : Bool), v7 = (.bool b9) ∧ ((b9 = true → ∃ (x10 : Int), ald ctx 3 h8 (.ptr p0 (0 + 2)) = some (.int .i64 x10) ∧ RF Try.prog ctx 40 [(.int .i64 x10), (.int .i64 (16 : Int)), (.int .i64 (2097152 : Int))] h8 (fun v11 h12 => ∃ (b13 : Bool), v11 = (.bool b13) ∧ ((b13 = true → ∃ (x14 : Int), ald ctx 3 h12 (.ptr p0 (0 + 3)) = some (.int .i64 x14) ∧ RF Try.prog ctx 40 [(.int .i64 x14), (.int .i64 (0 : Int)), (.int .i64 (9 : Int))] h12 (fun v15 h16 => ∃ (b17 : Bool), v15 = (.bool b17) ∧ ((b17 = true → Q (.int .i64 (0 : Int)) h16) ∧ (b17 = false → Q (.int .i64 (2 : Int)) h16)))) ∧ (b13 = false → Q (.int .i64 (2 : Int)) h12)))) ∧ (b9 = false → Q (.int .i64 (2 : Int)) h8)))) ∧ (b5 = false → Q (.int .i64 (2 : Int)) h4))))) := by kernel_rfl

/- (cheesepress/jobs.list).many -/
def b24 : Code :=
 (.seq
  (.region 0 ⟨[O1 (some 2) 28 (.assign (ci 0))]⟩ false)
  (.seq
   (.seq
    (.region 1 ⟨[O1 (some 3) 51 (.move (t 0)),
      O1 (some 4) 3 (.call ⟨(.builtin .len), #[(t 3)], #[51]⟩),
      O1 (some 5) 4 (.binOp .eql 3 (t 4) (ci 0) 3),
      O1 (some 6) 4 (.move (t 5)),
      O2 (some 7) 51 (.move (t 0)) (3, false),
      O2 (some 8) 3 (.call ⟨(.builtin .len), #[(t 7)], #[51]⟩) (3, false),
      O2 (some 9) 4 (.binOp .gtr 3 (t 8) (ci 4096) 3) (3, false),
      O1 (some 10) 4 (.pick (t 6) (.const (.bool true)) (t 9))]⟩ false)
    (.cond (t 10)
     (.seq
      (.region 2 ⟨[O1 (some 2) 28 (.assign (ci 6))]⟩ false)
      .ret)
     .skip))
   (.seq
    (.region 3 ⟨[O1 (some 2) 28 (.assign (ci 0))]⟩ false)
    .ret)))
theorem fn24 : (ctx.fn.get 24).map slimF = some ⟨11, [.tmp 2], b24⟩ := by kernel_rfl
theorem vb24 (a0 : V) (h : H) (Q : V → H → Prop) : wpC Try.prog ctx false b24 ⟨11, setArgs [a0] 0 (Tb.leaf undefV), [], h⟩ (endW ctx ⟨11, [.tmp 2], b24⟩ Q) = (∃ (x0 : Int), alen ctx 51 h a0 = some (.int .i64 x0) ∧ ((x0 = (0 : Int) → Q (.int .i64 (6 : Int)) h) ∧ (¬(x0 = (0 : Int)) → ∃ (x1 : Int), alen ctx 51 h a0 = some (.int .i64 x1) ∧ (((4096 : Int) < x1 → Q (.int .i64 (6 : Int)) h) ∧ (¬((4096 : Int) < x1) → Q (.int .i64 (0 : Int)) h))))) := by kernel_rfl

/- (cheesepress/jobs.list).bounded -/
def b25 : Code :=
 (.seq
  (.region 0 ⟨[O1 (some 2) 28 (.assign (ci 0))]⟩ false)
  (.seq
   (.seq
    (.region 1 ⟨[O1 (some 3) 51 (.move (t 0)),
      O1 (some 4) 3 (.call ⟨(.value (.func 41)), #[(t 3)], #[51]⟩),
      O1 (some 5) 4 (.binOp .lss 3 (t 4) (ci 0) 3),
      O1 (some 6) 4 (.move (t 5)),
      O2 (some 7) 51 (.move (t 0)) (3, false),
      O2 (some 8) 3 (.call ⟨(.value (.func 42)), #[(t 7)], #[51]⟩) (3, false),
      O2 (some 9) 4 (.binOp .gtr 3 (t 8) (ci 1048576) 3) (3, false),
      O1 (some 10) 4 (.pick (t 6) (.const (.bool true)) (t 9))]⟩ false)
    (.cond (t 10)
     (.seq
      (.region 2 ⟨[O1 (some 2) 28 (.assign (ci 2))]⟩ false)
      .ret)
     .skip))
   (.seq
    (.region 3 ⟨[O1 (some 2) 28 (.assign (ci 0))]⟩ false)
    .ret)))
theorem fn25 : (ctx.fn.get 25).map slimF = some ⟨11, [.tmp 2], b25⟩ := by kernel_rfl
theorem vb25 (a0 : V) (h : H) (Q : V → H → Prop) : wpC Try.prog ctx false b25 ⟨11, setArgs [a0] 0 (Tb.leaf undefV), [], h⟩ (endW ctx ⟨11, [.tmp 2], b25⟩ Q) = (RF Try.prog ctx 41 [a0] h (fun v0 h1 => ∃ (x2 : Int), v0 = (.int .i64 x2) ∧ ((x2 < (0 : Int) → Q (.int .i64 (2 : Int)) h1) ∧ (¬(x2 < (0 : Int)) → RF Try.prog ctx 42 [a0] h1 (fun v3 h4 => ∃ (x5 : Int), v3 = (.int .i64 x5) ∧ (((1048576 : Int) < x5 → Q (.int .i64 (2 : Int)) h4) ∧ (¬((1048576 : Int) < x5) → Q (.int .i64 (0 : Int)) h4))))))) := by kernel_rfl

/- (cheesepress/jobs.list).sorted -/
def b26 : Code :=
 (.seq
  (.region 0 ⟨[O1 (some 2) 28 (.assign (ci 0))]⟩ false)
  (.seq
   (.seq
    (.region 1 ⟨[O1 (some 3) 51 (.move (t 0)),
      O1 (some 4) 4 (.call ⟨(.value (.func 43)), #[(t 3)], #[51]⟩),
      O1 (some 5) 4 (.unOp .not 4 (t 4))]⟩ false)
    (.cond (t 5)
     (.seq
      (.region 2 ⟨[O1 (some 2) 28 (.assign (ci 9))]⟩ false)
      .ret)
     .skip))
   (.seq
    (.region 3 ⟨[O1 (some 2) 28 (.assign (ci 0))]⟩ false)
    .ret)))
theorem fn26 : (ctx.fn.get 26).map slimF = some ⟨6, [.tmp 2], b26⟩ := by kernel_rfl
theorem vb26 (a0 : V) (h : H) (Q : V → H → Prop) : wpC Try.prog ctx false b26 ⟨6, setArgs [a0] 0 (Tb.leaf undefV), [], h⟩ (endW ctx ⟨6, [.tmp 2], b26⟩ Q) = (RF Try.prog ctx 43 [a0] h (fun v0 h1 => ∃ (b2 : Bool), v0 = (.bool b2) ∧ ((b2 = true → Q (.int .i64 (0 : Int)) h1) ∧ (b2 = false → Q (.int .i64 (9 : Int)) h1)))) := by kernel_rfl

/- cheesepress/jobs.table -/
def a27_0 : Code :=
 (.region 3 #[⟨(some 7), .alloc 33, 0, "jobs.go:35", #[], none⟩,
   ⟨none, .store 33 (t 7) (t 12), 0, "jobs.go:35", #[⟨0, .data⟩, ⟨0, .phase⟩], none⟩] false)
def g27_1 : Code :=
 (.block 1
  (.region 4 #[⟨(some 13), .load 27 (t 5), 27, "jobs.go:36", #[], none⟩,
    ⟨(some 14), .load 33 (t 7), 33, "jobs.go:36", #[], none⟩,
    ⟨(some 15), .buildSlice 27 1 #[(0, (t 14))], 27, "jobs.go:36", #[⟨1, .data⟩], none⟩,
    ⟨(some 16), .call ⟨(.builtin .append), #[(t 13), (t 15)], #[27, 27]⟩, 27, "jobs.go:36", #[⟨0, .data⟩, ⟨2, .data⟩], none⟩,
    ⟨none, .store 27 (t 5) (t 16), 0, "jobs.go:36", #[⟨3, .data⟩, ⟨3, .chain⟩, ⟨0, .phase⟩, ⟨1, .phase⟩, ⟨2, .phase⟩, ⟨3, .phase⟩], none⟩] false))
def q27_2 : Code := .rangeFunc (t 10) #[11, 12] a27_0 g27_1
def r27_3 : Code :=
 (.seq
  (.region 5 ⟨[O1 (some 17) 27 (.load 27 (t 5)),
    O1 (some 4) 27 (.assign (t 17))]⟩ false)
  .ret)
def b27 : Code :=
 (.seq
  (.region 0 ⟨[O1 (some 2) 0 (.box 24 (t 0)),
    O1 (some 4) 27 (.assign (.const (.slice none 0 0)))]⟩ false)
  (.seq
   (.region 1 ⟨[O1 (some 5) 0 (.alloc 27)]⟩ false)
   (.seq
    (.seq
     (.region 2 ⟨[O1 (some 8) 24 (.load 24 (t 2)),
       O1 (some 9) 22 (.move (t 1)),
       O1 (some 10) 65 (.call ⟨(.value (.func 44)), #[(t 8), (t 9)], #[24, 22]⟩)]⟩ false)
     (.block 0
      q27_2))
    r27_3)))
theorem fn27 : (ctx.fn.get 27).map slimF = some ⟨18, [.tmp 4], b27⟩ := by kernel_rfl
theorem va27_0 (tm : Tm) (y12 : V) (d : List AD) (h : H) (Q : AX → St → Prop) : wpC Try.prog ctx true (slim a27_0) ⟨18, (Tb.set tm 12 y12), d, h⟩ (sealQ [4, 12, 5, 7] Q) = ((h.next < T.top ∧ ∀ p0 h1, p0 = h.next → h1 = h.new (.cells (.ls [(.int .i64 (0 : Int)), (.int .i64 (0 : Int)), (.int .i64 (0 : Int))]) ⟨0, 34, 0⟩ true false) → ∃ h2, ast ctx 33 h1 (.ptr p0 0) y12 = some h2 ∧ (∀ tm', getV tm' 4 = getV tm 4 → getV tm' 12 = y12 → getV tm' 5 = getV tm 5 → getV tm' 7 = (.ptr p0 0) → Q .normal ⟨18, tm', d, h2⟩))) := by kernel_rfl
theorem vg27_1 (tm : Tm) (y5 : V) (y7 : V) (d : List AD) (h : H) (Q : AX → St → Prop) : wpC Try.prog ctx true (slim g27_1) ⟨18, (Tb.set (Tb.set tm 5 y5) 7 y7), d, h⟩ (sealQ [4, 12, 5, 7] Q) = (∃ (v0 : V), ald ctx 27 h y5 = some v0 ∧ ∃ (x1 : Int) (x2 : Int) (x3 : Int), ald ctx 33 h y7 = some (.agg [(.int .i64 x1), (.int .i64 x2), (.int .i64 x3)]) ∧ ∃ v4 h5, abuildSlice ctx 27 1 [(0, (.agg [(.int .i64 x1), (.int .i64 x2), (.int .i64 x3)]))] h = some (v4, h5) ∧ (True ∧ ∃ v6 h7, aappend ctx 27 h5 v0 v4 = some (v6, h7) ∧ ∃ h8, ast ctx 27 h7 y5 v6 = some h8 ∧ (∀ tm', getV tm' 4 = getV tm 4 → getV tm' 12 = getV tm 12 → getV tm' 5 = y5 → getV tm' 7 = y7 → Q .normal ⟨18, tm', d, h8⟩))) := by kernel_rfl
theorem vr27_3 (tm : Tm) (y5 : V) (d : List AD) (h : H) (Q : AX → St → Prop) : wpC Try.prog ctx false r27_3 ⟨18, (Tb.set tm 5 y5), d, h⟩ (sealQ [4, 12, 5, 7] Q) = (∃ (v0 : V), ald ctx 27 h y5 = some v0 ∧ (∀ tm', getV tm' 4 = v0 → getV tm' 12 = getV tm 12 → getV tm' 5 = y5 → getV tm' 7 = getV tm 7 → Q .ret ⟨18, tm', d, h⟩)) := by kernel_rfl
theorem vb27 (a0_0 : Int) (a0_1 : Int) (a0_2 : Int) (a0_3 : Int) (a0_4 : Bool) (a0_5 : Bool) (a1 : V) (h : H) (Q : V → H → Prop) : wpC Try.prog ctx false b27 ⟨18, setArgs [(.agg [(.int .i64 a0_0), (.int .i64 a0_1), (.int .i64 a0_2), (.int .i64 a0_3), (.bool a0_4), (.bool a0_5)]), a1] 0 (Tb.leaf undefV), [], h⟩ (endW ctx ⟨18, [.tmp 4], b27⟩ Q) = ((h.next < T.top ∧ ∀ p0 h1, p0 = h.next → h1 = h.new (.cells (.ls [(.int .i64 a0_0), (.int .i64 a0_1), (.int .i64 a0_2), (.int .i64 a0_3), (.bool a0_4), (.bool a0_5)]) ⟨0, 25, 0⟩ true false) → (V.one .nilslice = true ∧ h1.next < T.top ∧ ∀ p2 h3, p2 = h1.next → h3 = h1.new (.cells (.ls [.nilslice]) ⟨0, 28, 0⟩ true false) → ∃ (x4 : Int) (x5 : Int) (x6 : Int) (x7 : Int) (b8 : Bool) (b9 : Bool), ald ctx 24 h3 (.ptr p0 0) = some (.agg [(.int .i64 x4), (.int .i64 x5), (.int .i64 x6), (.int .i64 x7), (.bool b8), (.bool b9)]) ∧ RF Try.prog ctx 44 [(.agg [(.int .i64 x4), (.int .i64 x5), (.int .i64 x6), (.int .i64 x7), (.bool b8), (.bool b9)]), a1] h3 (fun v10 h11 => ∃ (v12 : V), v10 = v12 ∧ RC Try.prog false q27_2 ⟨18, (Tb.set (Tb.set (Tb.set (Tb.set (Tb.set (Tb.set (Tb.set (Tb.set (Tb.leaf undefV) 0 (.agg [(.int .i64 a0_0), (.int .i64 a0_1), (.int .i64 a0_2), (.int .i64 a0_3), (.bool a0_4), (.bool a0_5)])) 1 a1) 2 (.ptr p0 0)) 4 .nilslice) 5 (.ptr p2 0)) 8 (.agg [(.int .i64 x4), (.int .i64 x5), (.int .i64 x6), (.int .i64 x7), (.bool b8), (.bool b9)])) 9 a1) 10 v12), [], h11⟩ (fun e s1 => (thenC (fun s1 => wpC Try.prog ctx false r27_3 s1 (endW ctx ⟨18, [.tmp 4], b27⟩ Q)) (endW ctx ⟨18, [.tmp 4], b27⟩ Q)) (exitB 0 e) s1))))) := by kernel_rfl

/- cheesepress/jobs.mapped[cheesepress/api.Job,int] -/
def l28_0 : Code :=
 (.seq
  (.region 3 ⟨[O1 (some 14) 0 (.binOp .lss 3 (t 13) (t 12) 3)]⟩ false)
  (.seq
   (.cond (t 14)
    .skip
    (.exit 0))
   (.seq
    (.block 1
     (.seq
      (.region 4 ⟨[O1 (some 15) 0 (.indexAddr 27 (t 11) (t 13)),
        O1 (some 16) 33 (.load 33 (t 15)),
        O1 (some 7) 0 (.alloc 33),
        O1 none 0 (.store 33 (t 7) (t 16))]⟩ false)
      (.region 5 ⟨[O1 (some 17) 22 (.move (t 5)),
        O1 (some 18) 55 (.move (t 1)),
        O1 (some 19) 33 (.load 33 (t 7)),
        O1 (some 20) 3 (.call ⟨(.value (t 18)), #[(t 19)], #[33]⟩),
        O1 (some 21) 22 (.buildSlice 22 1 #[(0, (t 20))]),
        O1 (some 22) 22 (.call ⟨(.builtin .append), #[(t 17), (t 21)], #[22, 22]⟩),
        O1 (some 5) 22 (.assign (t 22))]⟩ false)))
    (.region 6 ⟨[O1 (some 23) 3 (.binOp .add 3 (t 13) (ci 1) 3),
      O1 (some 13) 3 (.move (t 23))]⟩ false))))
def r28_1 : Code :=
 (.seq
  (.region 7 ⟨[O1 (some 24) 22 (.move (t 5)),
    O1 (some 4) 22 (.assign (t 24))]⟩ false)
  .ret)
def b28 : Code :=
 (.seq
  (.region 0 ⟨[O1 (some 4) 22 (.assign (.const (.slice none 0 0)))]⟩ false)
  (.seq
   (.region 1 ⟨[O1 (some 8) 27 (.move (t 0)),
     O1 (some 9) 3 (.call ⟨(.builtin .len), #[(t 8)], #[27]⟩),
     O1 (some 10) 22 (.makeSlice 22 (ci 0) (t 9)),
     O1 (some 5) 22 (.assign (t 10))]⟩ false)
   (.seq
    (.seq
     (.region 2 ⟨[O1 (some 11) 27 (.move (t 0)),
       O1 (some 12) 3 (.call ⟨(.builtin .len), #[(t 11)], #[27]⟩),
       O1 (some 13) 3 (.move (ci 0))]⟩ false)
     (.block 0
      (.loop l28_0)))
    r28_1)))
theorem fn28 : (ctx.fn.get 28).map slimF = some ⟨25, [.tmp 4], b28⟩ := by kernel_rfl
theorem vl28_0 (tm : Tm) (y13 : Int) (y12 : Int) (y11 : V) (y5 : V) (y1 : V) (d : List AD) (h : H) (Q : AX → St → Prop) : wpC Try.prog ctx false l28_0 ⟨25, (Tb.set (Tb.set (Tb.set (Tb.set (Tb.set tm 13 (.int .i64 y13)) 12 (.int .i64 y12)) 11 y11) 5 y5) 1 y1), d, h⟩ (sealQ [4, 13, 12, 11, 5, 1] Q) = (((y13 < y12 → ∃ p0 o1, aidx ctx 27 y11 (.int .i64 y13) = some (.ptr p0 o1) ∧ ∃ (x2 : Int) (x3 : Int) (x4 : Int), ald ctx 33 h (.ptr p0 o1) = some (.agg [(.int .i64 x2), (.int .i64 x3), (.int .i64 x4)]) ∧ (h.next < T.top ∧ ∀ p5 h6, p5 = h.next → h6 = h.new (.cells (.ls [(.int .i64 (0 : Int)), (.int .i64 (0 : Int)), (.int .i64 (0 : Int))]) ⟨0, 34, 0⟩ true false) → ∃ h7, ast ctx 33 h6 (.ptr p5 0) (.agg [(.int .i64 x2), (.int .i64 x3), (.int .i64 x4)]) = some h7 ∧ ∃ (x8 : Int) (x9 : Int) (x10 : Int), ald ctx 33 h7 (.ptr p5 0) = some (.agg [(.int .i64 x8), (.int .i64 x9), (.int .i64 x10)]) ∧ wpCallV ctx Try.prog 3 h7 (fun v11 h12 => ∃ v13 h14, abuildSlice ctx 22 1 [(0, v11)] h12 = some (v13, h14) ∧ (True ∧ ∃ v15 h16, aappend ctx 22 h14 y5 v13 = some (v15, h16) ∧ (∀ tm', getV tm' 4 = getV tm 4 → getV tm' 13 = (.int .i64 (w64 (y13 + (1 : Int)))) → getV tm' 12 = (.int .i64 y12) → getV tm' 11 = y11 → getV tm' 5 = v15 → getV tm' 1 = y1 → Q .normal ⟨25, tm', d, h16⟩))) [(.agg [(.int .i64 x8), (.int .i64 x9), (.int .i64 x10)])] y1)) ∧ (¬(y13 < y12) → (∀ tm', getV tm' 4 = getV tm 4 → getV tm' 13 = (.int .i64 y13) → getV tm' 12 = (.int .i64 y12) → getV tm' 11 = y11 → getV tm' 5 = y5 → getV tm' 1 = y1 → Q (.exit 0) ⟨25, tm', d, h⟩)))) := by kernel_rfl
theorem vr28_1 (tm : Tm) (y5 : V) (d : List AD) (h : H) (Q : AX → St → Prop) : wpC Try.prog ctx false r28_1 ⟨25, (Tb.set tm 5 y5), d, h⟩ (sealQ [4, 13, 12, 11, 5, 1] Q) = ((∀ tm', getV tm' 4 = y5 → getV tm' 13 = getV tm 13 → getV tm' 12 = getV tm 12 → getV tm' 11 = getV tm 11 → getV tm' 5 = y5 → getV tm' 1 = getV tm 1 → Q .ret ⟨25, tm', d, h⟩)) := by kernel_rfl
theorem vb28 (a0 : V) (a1 : V) (h : H) (Q : V → H → Prop) : wpC Try.prog ctx false b28 ⟨25, setArgs [a0, a1] 0 (Tb.leaf undefV), [], h⟩ (endW ctx ⟨25, [.tmp 4], b28⟩ Q) = (∃ (x0 : Int), alen ctx 27 h a0 = some (.int .i64 x0) ∧ ∃ v1 h2, amake ctx 22 (.int .i64 (0 : Int)) (.int .i64 x0) h = some (v1, h2) ∧ ∃ (x3 : Int), alen ctx 27 h2 a0 = some (.int .i64 x3) ∧ wpC Try.prog ctx false (.loop l28_0) ⟨25, (Tb.set (Tb.set (Tb.set (Tb.set (Tb.set (Tb.set (Tb.set (Tb.set (Tb.set (Tb.set (Tb.leaf undefV) 0 a0) 1 a1) 4 .nilslice) 8 a0) 9 (.int .i64 x0)) 10 v1) 5 v1) 11 a0) 12 (.int .i64 x3)) 13 (.int .i64 (0 : Int))), [], h2⟩ (fun e s1 => (thenC (fun s1 => wpC Try.prog ctx false r28_1 s1 (endW ctx ⟨25, [.tmp 4], b28⟩ Q)) (endW ctx ⟨25, [.tmp 4], b28⟩ Q)) (exitB 0 e) s1)) := by kernel_rfl

/- cheesepress/jobs.Check$1 -/
def b29 : Code :=
 (.seq
  (.region 0 ⟨[O1 (some 1) 0 (.box 33 (t 0)),
    O1 (some 2) 3 (.assign (ci 0))]⟩ false)
  (.seq
   (.region 1 ⟨[O1 (some 3) 0 (.fieldAddr 33 (t 1) 1),
     O1 (some 4) 3 (.load 3 (t 3)),
     O1 (some 2) 3 (.assign (t 4))]⟩ false)
   .ret))
theorem fn29 : (ctx.fn.get 29).map slimF = some ⟨5, [.tmp 2], b29⟩ := by kernel_rfl
theorem vb29 (a0_0 : Int) (a0_1 : Int) (a0_2 : Int) (h : H) (Q : V → H → Prop) : wpC Try.prog ctx false b29 ⟨5, setArgs [(.agg [(.int .i64 a0_0), (.int .i64 a0_1), (.int .i64 a0_2)])] 0 (Tb.leaf undefV), [], h⟩ (endW ctx ⟨5, [.tmp 2], b29⟩ Q) = ((h.next < T.top ∧ ∀ p0 h1, p0 = h.next → h1 = h.new (.cells (.ls [(.int .i64 a0_0), (.int .i64 a0_1), (.int .i64 a0_2)]) ⟨0, 34, 0⟩ true false) → ∃ (x2 : Int), ald ctx 3 h1 (.ptr p0 (0 + 1)) = some (.int .i64 x2) ∧ Q (.int .i64 x2) h1)) := by kernel_rfl

/- slices.Equal[[]cheesepress/api.Job,cheesepress/api.Job] -/
def l30_0 : Code :=
 (.seq
  (.region 4 ⟨[O1 (some 14) 0 (.binOp .lss 3 (t 13) (t 12) 3)]⟩ false)
  (.seq
   (.cond (t 14)
    .skip
    (.exit 0))
   (.seq
    (.block 1
     (.seq
      (.region 5 ⟨[O1 (some 15) 3 (.move (t 13)),
        O1 (some 5) 3 (.assign (t 15))]⟩ false)
      (.seq
       (.region 6 #[⟨(some 16), .move (t 0), 27, "slices.go:25", #[], none⟩,
         ⟨(some 17), .move (t 5), 3, "slices.go:25", #[], none⟩,
         ⟨(some 18), .indexAddr 27 (t 16) (t 17), 0, "slices.go:25", #[⟨0, .data⟩, ⟨1, .data⟩], none⟩,
         ⟨(some 19), .load 33 (t 18), 33, "slices.go:25", #[⟨2, .data⟩], none⟩,
         ⟨(some 20), .move (t 1), 27, "slices.go:25", #[], none⟩,
         ⟨(some 21), .move (t 5), 3, "slices.go:25", #[], none⟩,
         ⟨(some 22), .indexAddr 27 (t 20) (t 21), 0, "slices.go:25", #[⟨4, .data⟩, ⟨5, .data⟩], none⟩,
         ⟨(some 23), .load 33 (t 22), 33, "slices.go:25", #[⟨6, .data⟩], none⟩,
         ⟨(some 24), .binOp .neq 33 (t 19) (t 23) 33, 4, "slices.go:25", #[⟨3, .data⟩, ⟨7, .data⟩], none⟩] true)
       (.cond (t 24)
        (.seq
         (.region 7 ⟨[O1 (some 4) 4 (.assign (.const (.bool false)))]⟩ false)
         .ret)
        .skip))))
    (.region 8 ⟨[O1 (some 25) 3 (.binOp .add 3 (t 13) (ci 1) 3),
      O1 (some 13) 3 (.move (t 25))]⟩ false))))
def r30_1 : Code :=
 (.seq
  (.region 9 ⟨[O1 (some 4) 4 (.assign (.const (.bool true)))]⟩ false)
  .ret)
def b30 : Code :=
 (.seq
  (.region 0 ⟨[O1 (some 4) 4 (.assign (.const (.bool false)))]⟩ false)
  (.seq
   (.seq
    (.region 1 ⟨[O1 (some 6) 27 (.move (t 0)),
      O1 (some 7) 3 (.call ⟨(.builtin .len), #[(t 6)], #[27]⟩),
      O1 (some 8) 27 (.move (t 1)),
      O1 (some 9) 3 (.call ⟨(.builtin .len), #[(t 8)], #[27]⟩),
      O1 (some 10) 4 (.binOp .neq 3 (t 7) (t 9) 3)]⟩ false)
    (.cond (t 10)
     (.seq
      (.region 2 ⟨[O1 (some 4) 4 (.assign (.const (.bool false)))]⟩ false)
      .ret)
     .skip))
   (.seq
    (.seq
     (.region 3 ⟨[O1 (some 11) 27 (.move (t 0)),
       O1 (some 12) 3 (.call ⟨(.builtin .len), #[(t 11)], #[27]⟩),
       O1 (some 13) 3 (.move (ci 0))]⟩ false)
     (.block 0
      (.loop l30_0)))
    r30_1)))
theorem fn30 : (ctx.fn.get 30).map slimF = some ⟨26, [.tmp 4], b30⟩ := by kernel_rfl
theorem vl30_0 (tm : Tm) (y13 : Int) (y12 : Int) (y0 : V) (y1 : V) (d : List AD) (h : H) (Q : AX → St → Prop) : wpC Try.prog ctx false l30_0 ⟨26, (Tb.set (Tb.set (Tb.set (Tb.set tm 13 (.int .i64 y13)) 12 (.int .i64 y12)) 0 y0) 1 y1), d, h⟩ (sealQ [4, 13, 12, 0, 1] Q) = (((y13 < y12 → ((h.next ≤ T.top ∧ h.low ≤ T.top) ∧ ∃ p0 o1, aidx ctx 27 y0 (.int .i64 y13) = some (.ptr p0 o1) ∧ ∃ (x2 : Int) (x3 : Int) (x4 : Int), ald ctx 33 h (.ptr p0 o1) = some (.agg [(.int .i64 x2), (.int .i64 x3), (.int .i64 x4)]) ∧ ∃ p5 o6, aidx ctx 27 y1 (.int .i64 y13) = some (.ptr p5 o6) ∧ ∃ (x7 : Int) (x8 : Int) (x9 : Int), ald ctx 33 h (.ptr p5 o6) = some (.agg [(.int .i64 x7), (.int .i64 x8), (.int .i64 x9)]) ∧ ∃ (b10 : Bool), abin ctx .neq 33 (t 19) (t 23) (.agg [(.int .i64 x2), (.int .i64 x3), (.int .i64 x4)]) (.agg [(.int .i64 x7), (.int .i64 x8), (.int .i64 x9)]) = some (.bool b10) ∧ ((b10 = true → (∀ tm', getV tm' 4 = (.bool false) → getV tm' 13 = (.int .i64 y13) → getV tm' 12 = (.int .i64 y12) → getV tm' 0 = y0 → getV tm' 1 = y1 → Q .ret ⟨26, tm', d, h⟩)) ∧ (b10 = false → (∀ tm', getV tm' 4 = getV tm 4 → getV tm' 13 = (.int .i64 (w64 (y13 + (1 : Int)))) → getV tm' 12 = (.int .i64 y12) → getV tm' 0 = y0 → getV tm' 1 = y1 → Q .normal ⟨26, tm', d, h⟩))))) ∧ (¬(y13 < y12) → (∀ tm', getV tm' 4 = getV tm 4 → getV tm' 13 = (.int .i64 y13) → getV tm' 12 = (.int .i64 y12) → getV tm' 0 = y0 → getV tm' 1 = y1 → Q (.exit 0) ⟨26, tm', d, h⟩)))) := by kernel_rfl
theorem vr30_1 (tm : Tm)  (d : List AD) (h : H) (Q : AX → St → Prop) : wpC Try.prog ctx false r30_1 ⟨26, tm, d, h⟩ (sealQ [4, 13, 12, 0, 1] Q) = ((∀ tm', getV tm' 4 = (.bool true) → getV tm' 13 = getV tm 13 → getV tm' 12 = getV tm 12 → getV tm' 0 = getV tm 0 → getV tm' 1 = getV tm 1 → Q .ret ⟨26, tm', d, h⟩)) := by kernel_rfl
theorem vb30 (a0 : V) (a1 : V) (h : H) (Q : V → H → Prop) : wpC Try.prog ctx false b30 ⟨26, setArgs [a0, a1] 0 (Tb.leaf undefV), [], h⟩ (endW ctx ⟨26, [.tmp 4], b30⟩ Q) = (∃ (x0 : Int), alen ctx 27 h a0 = some (.int .i64 x0) ∧ ∃ (x1 : Int), alen ctx 27 h a1 = some (.int .i64 x1) ∧ ((x0 ≠ x1 → Q (.bool false) h) ∧ (¬(x0 ≠ x1) → ∃ (x2 : Int), alen ctx 27 h a0 = some (.int .i64 x2) ∧ wpC Try.prog ctx false (.loop l30_0) ⟨26, (Tb.set (Tb.set (Tb.set (Tb.set (Tb.set (Tb.set (Tb.set (Tb.set (Tb.set (Tb.set (Tb.set (Tb.leaf undefV) 0 a0) 1 a1) 4 (.bool false)) 6 a0) 7 (.int .i64 x0)) 8 a1) 9 (.int .i64 x1)) 10 (.bool false)) 11 a0) 12 (.int .i64 x2)) 13 (.int .i64 (0 : Int))), [], h⟩ (fun e s1 => (thenC (fun s1 => wpC Try.prog ctx false r30_1 s1 (endW ctx ⟨26, [.tmp 4], b30⟩ Q)) (endW ctx ⟨26, [.tmp 4], b30⟩ Q)) (exitB 0 e) s1)))) := by kernel_rfl

/- cheesepress/cheesepresslaw36.is -/
def b31 : Code :=
 (.seq
  (.region 0 ⟨[O1 (some 4) 4 (.assign (.const (.bool false)))]⟩ false)
  (.seq
   (.region 1 ⟨[O1 (some 8) 24 (.call ⟨(.value (.func 45)), #[], #[]⟩),
     O1 (some 9) 22 (.move (t 0)),
     O1 (some 10) 29 (.call ⟨(.value (.func 8)), #[(t 8), (t 9)], #[24, 22]⟩),
     O1 (some 7) 29 (.move (t 10)),
     O1 (some 11) 27 (.extract (t 7) 0),
     O1 (some 12) 28 (.extract (t 7) 1),
     O1 (some 5) 27 (.assign (t 11)),
     O1 (some 6) 28 (.assign (t 12))]⟩ false)
   (.seq
    (.region 2 ⟨[O1 (some 13) 27 (.move (t 5)),
      O1 (some 14) 27 (.move (t 1)),
      O1 (some 15) 4 (.call ⟨(.value (.func 13)), #[(t 13), (t 14)], #[27, 27]⟩),
      O1 (some 16) 4 (.move (t 15)),
      O2 (some 17) 28 (.move (t 6)) (3, true),
      O2 (some 18) 4 (.binOp .eql 28 (t 17) (ci 0) 28) (3, true),
      O1 (some 19) 4 (.pick (t 16) (t 18) (.const (.bool false))),
      O1 (some 4) 4 (.assign (t 19))]⟩ false)
    .ret)))
theorem fn31 : (ctx.fn.get 31).map slimF = some ⟨20, [.tmp 4], b31⟩ := by kernel_rfl
theorem vb31 (a0 : V) (a1 : V) (h : H) (Q : V → H → Prop) : wpC Try.prog ctx false b31 ⟨20, setArgs [a0, a1] 0 (Tb.leaf undefV), [], h⟩ (endW ctx ⟨20, [.tmp 4], b31⟩ Q) = (RF Try.prog ctx 45 [] h (fun v0 h1 => ∃ (x2 : Int) (x3 : Int) (x4 : Int) (x5 : Int) (b6 : Bool) (b7 : Bool), v0 = (.agg [(.int .i64 x2), (.int .i64 x3), (.int .i64 x4), (.int .i64 x5), (.bool b6), (.bool b7)]) ∧ RF Try.prog ctx 8 [(.agg [(.int .i64 x2), (.int .i64 x3), (.int .i64 x4), (.int .i64 x5), (.bool b6), (.bool b7)]), a0] h1 (fun v8 h9 => ∃ (v10 : V) (x11 : Int), v8 = (.tuple [v10, (.int .i64 x11)]) ∧ RF Try.prog ctx 13 [v10, a1] h9 (fun v12 h13 => ∃ (b14 : Bool), v12 = (.bool b14) ∧ ((b14 = true → ((x11 = (0 : Int) → Q (.bool true) h13) ∧ (¬(x11 = (0 : Int)) → Q (.bool false) h13))) ∧ (b14 = false → Q (.bool false) h13)))))) := by kernel_rfl

/- cheesepress/cheesepressref21.Check -/
def b32 : Code :=
 (.seq
  (.region 0 ⟨[O1 (some 1) 0 (.box 24 (t 0)),
    O1 (some 2) 28 (.assign (ci 0))]⟩ false)
  (.seq
   (.seq
    (.region 1 ⟨[O1 (some 3) 0 (.fieldAddr 24 (t 1) 0),
      O1 (some 4) 3 (.load 3 (t 3)),
      O1 (some 5) 4 (.binOp .lss 3 (t 4) (ci 1) 3),
      O1 (some 6) 4 (.move (t 5)),
      O2 (some 7) 0 (.fieldAddr 24 (t 1) 0) (3, false),
      O2 (some 8) 3 (.load 3 (t 7)) (3, false),
      O2 (some 9) 4 (.binOp .gtr 3 (t 8) (ci 9) 3) (3, false),
      O1 (some 10) 4 (.pick (t 6) (.const (.bool true)) (t 9)),
      O1 (some 11) 4 (.move (t 10)),
      O2 (some 12) 0 (.fieldAddr 24 (t 1) 1) (8, false),
      O2 (some 13) 3 (.load 3 (t 12)) (8, false),
      O2 (some 14) 4 (.binOp .lss 3 (t 13) (ci 10) 3) (8, false),
      O1 (some 15) 4 (.pick (t 11) (.const (.bool true)) (t 14)),
      O1 (some 16) 4 (.move (t 15)),
      O2 (some 17) 0 (.fieldAddr 24 (t 1) 1) (13, false),
      O2 (some 18) 3 (.load 3 (t 17)) (13, false),
      O2 (some 19) 4 (.binOp .gtr 3 (t 18) (ci 27) 3) (13, false),
      O1 (some 20) 4 (.pick (t 16) (.const (.bool true)) (t 19)),
      O1 (some 21) 4 (.move (t 20)),
      O2 (some 22) 0 (.fieldAddr 24 (t 1) 2) (18, false),
      O2 (some 23) 3 (.load 3 (t 22)) (18, false),
      O2 (some 24) 4 (.binOp .lss 3 (t 23) (ci 16) 3) (18, false),
      O1 (some 25) 4 (.pick (t 21) (.const (.bool true)) (t 24)),
      O1 (some 26) 4 (.move (t 25)),
      O2 (some 27) 0 (.fieldAddr 24 (t 1) 2) (23, false),
      O2 (some 28) 3 (.load 3 (t 27)) (23, false),
      O2 (some 29) 4 (.binOp .gtr 3 (t 28) (ci 2097152) 3) (23, false),
      O1 (some 30) 4 (.pick (t 26) (.const (.bool true)) (t 29)),
      O1 (some 31) 4 (.move (t 30)),
      O2 (some 32) 0 (.fieldAddr 24 (t 1) 3) (28, false),
      O2 (some 33) 3 (.load 3 (t 32)) (28, false),
      O2 (some 34) 4 (.binOp .lss 3 (t 33) (ci 0) 3) (28, false),
      O1 (some 35) 4 (.pick (t 31) (.const (.bool true)) (t 34)),
      O1 (some 36) 4 (.move (t 35)),
      O2 (some 37) 0 (.fieldAddr 24 (t 1) 3) (33, false),
      O2 (some 38) 3 (.load 3 (t 37)) (33, false),
      O2 (some 39) 4 (.binOp .gtr 3 (t 38) (ci 9) 3) (33, false),
      O1 (some 40) 4 (.pick (t 36) (.const (.bool true)) (t 39))]⟩ false)
    (.cond (t 40)
     (.seq
      (.region 2 ⟨[O1 (some 2) 28 (.assign (ci 2))]⟩ false)
      .ret)
     .skip))
   (.seq
    (.region 3 ⟨[O1 (some 2) 28 (.assign (ci 0))]⟩ false)
    .ret)))
theorem fn32 : (ctx.fn.get 32).map slimF = some ⟨41, [.tmp 2], b32⟩ := by kernel_rfl
theorem vb32 (a0_0 : Int) (a0_1 : Int) (a0_2 : Int) (a0_3 : Int) (a0_4 : Bool) (a0_5 : Bool) (h : H) (Q : V → H → Prop) : wpC Try.prog ctx false b32 ⟨41, setArgs [(.agg [(.int .i64 a0_0), (.int .i64 a0_1), (.int .i64 a0_2), (.int .i64 a0_3), (.bool a0_4), (.bool a0_5)])] 0 (Tb.leaf undefV), [], h⟩ (endW ctx ⟨41, [.tmp 2], b32⟩ Q) = ((h.next < T.top ∧ ∀ p0 h1, p0 = h.next → h1 = h.new (.cells (.ls [(.int .i64 a0_0), (.int .i64 a0_1), (.int .i64 a0_2), (.int .i64 a0_3), (.bool a0_4), (.bool a0_5)]) ⟨0, 25, 0⟩ true false) → ∃ (x2 : Int), ald ctx 3 h1 (.ptr p0 (0 + 0)) = some (.int .i64 x2) ∧ ((x2 < (1 : Int) → Q (.int .i64 (2 : Int)) h1) ∧ (¬(x2 < (1 : Int)) → ∃ (x3 : Int), ald ctx 3 h1 (.ptr p0 (0 + 0)) = some (.int .i64 x3) ∧ (((9 : Int) < x3 → Q (.int .i64 (2 : Int)) h1) ∧ (¬((9 : Int) < x3) → ∃ (x4 : Int), ald ctx 3 h1 (.ptr p0 (0 + 1)) = some (.int .i64 x4) ∧ ((x4 < (10 : Int) → Q (.int .i64 (2 : Int)) h1) ∧ (¬(x4 < (10 : Int)) → ∃ (x5 : Int), ald ctx 3 h1 (.ptr p0 (0 + 1)) = some (.int .i64 x5) ∧ (((27 : Int) < x5 → Q (.int .i64 (2 : Int)) h1) ∧ (¬((27 : Int) < x5) → ∃ (x6 : Int), ald ctx 3 h1 (.ptr p0 (0 + 2)) = some (.int .i64 x6) ∧ ((x6 < (16 : Int) → Q (.int .i64 (2 : Int)) h1) ∧ (¬(x6 < (16 : Int)) → ∃ (x7 : Int), ald ctx 3 h1 (.ptr p0 (0 + 2)) = some (.int .i64 x7) ∧ (((2097152 : Int) < x7 → Q (.int .i64 (2 : Int)) h1) ∧ (¬((2097152 : Int) < x7) → ∃ (x8 : Int), ald ctx 3 h1 (.ptr p0 (0 + 3)) = some (.int .i64 x8) ∧ ((x8 < (0 : Int) → Q (.int .i64 (2 : Int)) h1) ∧ (¬(x8 < (0 : Int)) → ∃ (x9 : Int), ald ctx 3 h1 (.ptr p0 (0 + 3)) = some (.int .i64 x9) ∧ (((9 : Int) < x9 → Q (.int .i64 (2 : Int)) h1) ∧ (¬((9 : Int) < x9) → Q (.int .i64 (0 : Int)) h1)))))))))))))))))) := by kernel_rfl

/- cheesepress/cheesepressref36.table -/
def l33_0 : Code :=
 (.seq
  (.seq
   (.region 5 ⟨[O1 (some 15) 3 (.move (t 9)),
     O1 (some 16) 22 (.move (t 1)),
     O1 (some 17) 3 (.call ⟨(.builtin .len), #[(t 16)], #[22]⟩),
     O1 (some 18) 4 (.binOp .lss 3 (t 15) (t 17) 3)]⟩ false)
   (.cond (t 18)
    .skip
    (.exit 0)))
  (.seq
   (.block 1
    (.seq
     (.region 7 ⟨[O1 (some 21) 27 (.move (t 7)),
       O1 (some 22) 3 (.move (t 8)),
       O1 (some 23) 22 (.move (t 1)),
       O1 (some 24) 3 (.move (t 9)),
       O1 (some 25) 0 (.indexAddr 22 (t 23) (t 24)),
       O1 (some 26) 3 (.load 3 (t 25)),
       O1 (some 27) 3 (.move (t 8)),
       O1 (some 28) 3 (.move (t 5)),
       O1 (some 29) 3 (.binOp .sub 3 (t 27) (t 28) 3),
       O1 (some 30) 3 (.call ⟨(.builtin .max), #[(ci 0), (t 29)], #[3, 3]⟩),
       O1 (some 31) 33 (.build 33 #[(0, (t 22)), (1, (t 26)), (2, (t 30))]),
       O1 (some 32) 27 (.buildSlice 27 1 #[(0, (t 31))]),
       O1 (some 33) 27 (.call ⟨(.builtin .append), #[(t 21), (t 32)], #[27, 27]⟩),
       O1 (some 7) 27 (.assign (t 33))]⟩ false)
     (.region 8 ⟨[O1 (some 34) 22 (.move (t 1)),
       O1 (some 35) 3 (.move (t 9)),
       O1 (some 36) 0 (.indexAddr 22 (t 34) (t 35)),
       O1 (some 37) 3 (.load 3 (t 36)),
       O1 (some 8) 3 (.assign (t 37))]⟩ false)))
   (.region 6 ⟨[O1 (some 19) 3 (.move (t 9)),
     O1 (some 20) 3 (.binOp .add 3 (t 19) (ci 1) 3),
     O1 (some 9) 3 (.assign (t 20))]⟩ false)))
def r33_1 : Code :=
 (.seq
  (.region 9 ⟨[O1 (some 38) 27 (.move (t 7)),
    O1 (some 4) 27 (.assign (t 38))]⟩ false)
  .ret)
def b33 : Code :=
 (.seq
  (.region 0 ⟨[O1 (some 2) 0 (.box 24 (t 0)),
    O1 (some 4) 27 (.assign (.const (.slice none 0 0)))]⟩ false)
  (.seq
   (.region 1 ⟨[O1 (some 11) 24 (.load 24 (t 2)),
     O1 (some 12) 46 (.call ⟨(.value (.func 22)), #[(t 11)], #[24]⟩),
     O1 (some 10) 46 (.move (t 12)),
     O1 (some 13) 3 (.extract (t 10) 0),
     O1 (some 14) 28 (.extract (t 10) 1),
     O1 (some 5) 3 (.assign (t 13)),
     O1 (some 6) 28 (.assign (t 14))]⟩ false)
   (.seq
    (.region 2 ⟨[O1 (some 7) 27 (.assign (.const (.slice none 0 0)))]⟩ false)
    (.seq
     (.region 3 ⟨[O1 (some 8) 3 (.assign (ci 0))]⟩ false)
     (.seq
      (.seq
       (.region 4 ⟨[O1 (some 9) 3 (.assign (ci 0))]⟩ false)
       (.block 0
        (.loop l33_0)))
      r33_1)))))
theorem fn33 : (ctx.fn.get 33).map slimF = some ⟨39, [.tmp 4], b33⟩ := by kernel_rfl
theorem vl33_0 (tm : Tm) (y9 : Int) (y1 : V) (y7 : V) (y8 : Int) (y5 : Int) (d : List AD) (h : H) (Q : AX → St → Prop) : wpC Try.prog ctx false l33_0 ⟨39, (Tb.set (Tb.set (Tb.set (Tb.set (Tb.set tm 9 (.int .i64 y9)) 1 y1) 7 y7) 8 (.int .i64 y8)) 5 (.int .i64 y5)), d, h⟩ (sealQ [4, 9, 1, 7, 8, 5] Q) = (∃ (x0 : Int), alen ctx 22 h y1 = some (.int .i64 x0) ∧ ((y9 < x0 → ∃ p1 o2, aidx ctx 22 y1 (.int .i64 y9) = some (.ptr p1 o2) ∧ ∃ (x3 : Int), ald ctx 3 h (.ptr p1 o2) = some (.int .i64 x3) ∧ ∃ v4 h5, abuildSlice ctx 27 1 [(0, (.agg [(.int .i64 y8), (.int .i64 x3), (.int .i64 (max (0 : Int) (w64 (y8 - y5))))]))] h = some (v4, h5) ∧ (True ∧ ∃ v6 h7, aappend ctx 27 h5 y7 v4 = some (v6, h7) ∧ ∃ p8 o9, aidx ctx 22 y1 (.int .i64 y9) = some (.ptr p8 o9) ∧ ∃ (x10 : Int), ald ctx 3 h7 (.ptr p8 o9) = some (.int .i64 x10) ∧ (∀ tm', getV tm' 4 = getV tm 4 → getV tm' 9 = (.int .i64 (w64 (y9 + (1 : Int)))) → getV tm' 1 = y1 → getV tm' 7 = v6 → getV tm' 8 = (.int .i64 x10) → getV tm' 5 = (.int .i64 y5) → Q .normal ⟨39, tm', d, h7⟩))) ∧ (¬(y9 < x0) → (∀ tm', getV tm' 4 = getV tm 4 → getV tm' 9 = (.int .i64 y9) → getV tm' 1 = y1 → getV tm' 7 = y7 → getV tm' 8 = (.int .i64 y8) → getV tm' 5 = (.int .i64 y5) → Q (.exit 0) ⟨39, tm', d, h⟩)))) := by kernel_rfl
theorem vr33_1 (tm : Tm) (y7 : V) (d : List AD) (h : H) (Q : AX → St → Prop) : wpC Try.prog ctx false r33_1 ⟨39, (Tb.set tm 7 y7), d, h⟩ (sealQ [4, 9, 1, 7, 8, 5] Q) = ((∀ tm', getV tm' 4 = y7 → getV tm' 9 = getV tm 9 → getV tm' 1 = getV tm 1 → getV tm' 7 = y7 → getV tm' 8 = getV tm 8 → getV tm' 5 = getV tm 5 → Q .ret ⟨39, tm', d, h⟩)) := by kernel_rfl
theorem vb33 (a0_0 : Int) (a0_1 : Int) (a0_2 : Int) (a0_3 : Int) (a0_4 : Bool) (a0_5 : Bool) (a1 : V) (h : H) (Q : V → H → Prop) : wpC Try.prog ctx false b33 ⟨39, setArgs [(.agg [(.int .i64 a0_0), (.int .i64 a0_1), (.int .i64 a0_2), (.int .i64 a0_3), (.bool a0_4), (.bool a0_5)]), a1] 0 (Tb.leaf undefV), [], h⟩ (endW ctx ⟨39, [.tmp 4], b33⟩ Q) = ((h.next < T.top ∧ ∀ p0 h1, p0 = h.next → h1 = h.new (.cells (.ls [(.int .i64 a0_0), (.int .i64 a0_1), (.int .i64 a0_2), (.int .i64 a0_3), (.bool a0_4), (.bool a0_5)]) ⟨0, 25, 0⟩ true false) → ∃ (x2 : Int) (x3 : Int) (x4 : Int) (x5 : Int) (b6 : Bool) (b7 : Bool), ald ctx 24 h1 (.ptr p0 0) = some (.agg [(.int .i64 x2), (.int .i64 x3), (.int .i64 x4), (.int .i64 x5), (.bool b6), (.bool b7)]) ∧ RF Try.prog ctx 22 [(.agg [(.int .i64 x2), (.int .i64 x3), (.int .i64 x4), (.int .i64 x5), (.bool b6), (.bool b7)])] h1 (fun v8 h9 => ∃ (x10 : Int) (x11 : Int), v8 = (.tuple [(.int .i64 x10), (.int .i64 x11)]) ∧ wpC Try.prog ctx false (.loop l33_0) ⟨39, (Tb.set (Tb.set (Tb.set (Tb.set (Tb.set (Tb.set (Tb.set (Tb.set (Tb.set (Tb.set (Tb.set (Tb.set (Tb.set (Tb.set (Tb.leaf undefV) 0 (.agg [(.int .i64 a0_0), (.int .i64 a0_1), (.int .i64 a0_2), (.int .i64 a0_3), (.bool a0_4), (.bool a0_5)])) 1 a1) 2 (.ptr p0 0)) 4 .nilslice) 11 (.agg [(.int .i64 x2), (.int .i64 x3), (.int .i64 x4), (.int .i64 x5), (.bool b6), (.bool b7)])) 12 (.tuple [(.int .i64 x10), (.int .i64 x11)])) 10 (.tuple [(.int .i64 x10), (.int .i64 x11)])) 13 (.int .i64 x10)) 14 (.int .i64 x11)) 5 (.int .i64 x10)) 6 (.int .i64 x11)) 7 .nilslice) 8 (.int .i64 (0 : Int))) 9 (.int .i64 (0 : Int))), [], h9⟩ (fun e s1 => (thenC (fun s1 => wpC Try.prog ctx false r33_1 s1 (endW ctx ⟨39, [.tmp 4], b33⟩ Q)) (endW ctx ⟨39, [.tmp 4], b33⟩ Q)) (exitB 0 e) s1)))) := by kernel_rfl

/- cheesepress/jobs.Units$1 -/
def b34 : Code :=
 (.seq
  (.region 0 ⟨[O1 (some 2) 0 (.box 33 (t 0)),
    O1 (some 3) 3 (.assign (ci 0))]⟩ false)
  (.seq
   (.region 1 ⟨[O1 (some 7) 24 (.load 24 (t 1)),
     O1 (some 8) 0 (.fieldAddr 33 (t 2) 1),
     O1 (some 9) 3 (.load 3 (t 8)),
     O1 (some 10) 0 (.fieldAddr 33 (t 2) 0),
     O1 (some 11) 3 (.load 3 (t 10)),
     O1 (some 12) 3 (.binOp .sub 3 (t 9) (t 11) 3),
     O1 (some 13) 46 (.call ⟨(.value (.func 35)), #[(t 7), (t 12)], #[24, 3]⟩),
     O1 (some 6) 46 (.move (t 13)),
     O1 (some 14) 3 (.extract (t 6) 0),
     O1 (some 15) 28 (.extract (t 6) 1),
     O1 (some 4) 3 (.assign (t 14)),
     O1 (some 5) 28 (.assign (t 15))]⟩ false)
   (.seq
    (.region 2 ⟨[O1 (some 16) 3 (.move (t 4)),
      O1 (some 3) 3 (.assign (t 16))]⟩ false)
    .ret)))
theorem fn34 : (ctx.fn.get 34).map slimF = some ⟨17, [.tmp 3], b34⟩ := by kernel_rfl
theorem vb34 (a0_0 : Int) (a0_1 : Int) (a0_2 : Int) (a1 : V) (h : H) (Q : V → H → Prop) : wpC Try.prog ctx false b34 ⟨17, setArgs [(.agg [(.int .i64 a0_0), (.int .i64 a0_1), (.int .i64 a0_2)]), a1] 0 (Tb.leaf undefV), [], h⟩ (endW ctx ⟨17, [.tmp 3], b34⟩ Q) = ((h.next < T.top ∧ ∀ p0 h1, p0 = h.next → h1 = h.new (.cells (.ls [(.int .i64 a0_0), (.int .i64 a0_1), (.int .i64 a0_2)]) ⟨0, 34, 0⟩ true false) → ∃ (x2 : Int) (x3 : Int) (x4 : Int) (x5 : Int) (b6 : Bool) (b7 : Bool), ald ctx 24 h1 a1 = some (.agg [(.int .i64 x2), (.int .i64 x3), (.int .i64 x4), (.int .i64 x5), (.bool b6), (.bool b7)]) ∧ ∃ (x8 : Int), ald ctx 3 h1 (.ptr p0 (0 + 1)) = some (.int .i64 x8) ∧ ∃ (x9 : Int), ald ctx 3 h1 (.ptr p0 (0 + 0)) = some (.int .i64 x9) ∧ RF Try.prog ctx 35 [(.agg [(.int .i64 x2), (.int .i64 x3), (.int .i64 x4), (.int .i64 x5), (.bool b6), (.bool b7)]), (.int .i64 (w64 (x8 - x9)))] h1 (fun v10 h11 => ∃ (x12 : Int) (x13 : Int), v10 = (.tuple [(.int .i64 x12), (.int .i64 x13)]) ∧ Q (.int .i64 x12) h11))) := by kernel_rfl

/- cheesepress/pieces.Units -/
def b35 : Code :=
 (.seq
  (.region 0 ⟨[O1 (some 2) 0 (.box 24 (t 0)),
    O1 (some 4) 3 (.assign (ci 0)),
    O1 (some 5) 28 (.assign (ci 0))]⟩ false)
  (.seq
   (.region 1 ⟨[O1 (some 9) 24 (.load 24 (t 2)),
     O1 (some 10) 3 (.move (t 1)),
     O1 (some 11) 39 (.call ⟨(.value (.func 46)), #[(t 9), (t 10)], #[24, 3]⟩),
     O1 (some 8) 39 (.move (t 11)),
     O1 (some 12) 22 (.extract (t 8) 0),
     O1 (some 13) 28 (.extract (t 8) 1),
     O1 (some 6) 22 (.assign (t 12)),
     O1 (some 7) 28 (.assign (t 13))]⟩ false)
   (.seq
    (.region 2 ⟨[O1 (some 14) 22 (.move (t 6)),
      O1 (some 15) 3 (.call ⟨(.builtin .len), #[(t 14)], #[22]⟩),
      O1 (some 16) 28 (.move (t 7)),
      O1 (some 4) 3 (.assign (t 15)),
      O1 (some 5) 28 (.assign (t 16))]⟩ false)
    .ret)))
theorem fn35 : (ctx.fn.get 35).map slimF = some ⟨17, [.tmp 4, .tmp 5], b35⟩ := by kernel_rfl
theorem vb35 (a0_0 : Int) (a0_1 : Int) (a0_2 : Int) (a0_3 : Int) (a0_4 : Bool) (a0_5 : Bool) (a1 : Int) (h : H) (Q : V → H → Prop) : wpC Try.prog ctx false b35 ⟨17, setArgs [(.agg [(.int .i64 a0_0), (.int .i64 a0_1), (.int .i64 a0_2), (.int .i64 a0_3), (.bool a0_4), (.bool a0_5)]), (.int .i64 a1)] 0 (Tb.leaf undefV), [], h⟩ (endW ctx ⟨17, [.tmp 4, .tmp 5], b35⟩ Q) = ((h.next < T.top ∧ ∀ p0 h1, p0 = h.next → h1 = h.new (.cells (.ls [(.int .i64 a0_0), (.int .i64 a0_1), (.int .i64 a0_2), (.int .i64 a0_3), (.bool a0_4), (.bool a0_5)]) ⟨0, 25, 0⟩ true false) → ∃ (x2 : Int) (x3 : Int) (x4 : Int) (x5 : Int) (b6 : Bool) (b7 : Bool), ald ctx 24 h1 (.ptr p0 0) = some (.agg [(.int .i64 x2), (.int .i64 x3), (.int .i64 x4), (.int .i64 x5), (.bool b6), (.bool b7)]) ∧ RF Try.prog ctx 46 [(.agg [(.int .i64 x2), (.int .i64 x3), (.int .i64 x4), (.int .i64 x5), (.bool b6), (.bool b7)]), (.int .i64 a1)] h1 (fun v8 h9 => ∃ (v10 : V) (x11 : Int), v8 = (.tuple [v10, (.int .i64 x11)]) ∧ ∃ (x12 : Int), alen ctx 22 h9 v10 = some (.int .i64 x12) ∧ Q (.tuple [(.int .i64 x12), (.int .i64 x11)]) h9))) := by kernel_rfl

/- cheesepress/cheesepressref30.Units -/
def b36 : Code :=
 (.seq
  (.region 0 ⟨[O1 (some 2) 0 (.box 24 (t 0)),
    O1 (some 4) 3 (.assign (ci 0)),
    O1 (some 5) 28 (.assign (ci 0))]⟩ false)
  (.seq
   (.region 1 ⟨[O1 (some 9) 24 (.load 24 (t 2)),
     O1 (some 10) 3 (.move (t 1)),
     O1 (some 11) 39 (.call ⟨(.value (.func 47)), #[(t 9), (t 10)], #[24, 3]⟩),
     O1 (some 8) 39 (.move (t 11)),
     O1 (some 12) 22 (.extract (t 8) 0),
     O1 (some 13) 28 (.extract (t 8) 1),
     O1 (some 6) 22 (.assign (t 12)),
     O1 (some 7) 28 (.assign (t 13))]⟩ false)
   (.seq
    (.region 2 ⟨[O1 (some 14) 22 (.move (t 6)),
      O1 (some 15) 3 (.call ⟨(.builtin .len), #[(t 14)], #[22]⟩),
      O1 (some 16) 28 (.move (t 7)),
      O1 (some 4) 3 (.assign (t 15)),
      O1 (some 5) 28 (.assign (t 16))]⟩ false)
    .ret)))
theorem fn36 : (ctx.fn.get 36).map slimF = some ⟨17, [.tmp 4, .tmp 5], b36⟩ := by kernel_rfl
theorem vb36 (a0_0 : Int) (a0_1 : Int) (a0_2 : Int) (a0_3 : Int) (a0_4 : Bool) (a0_5 : Bool) (a1 : Int) (h : H) (Q : V → H → Prop) : wpC Try.prog ctx false b36 ⟨17, setArgs [(.agg [(.int .i64 a0_0), (.int .i64 a0_1), (.int .i64 a0_2), (.int .i64 a0_3), (.bool a0_4), (.bool a0_5)]), (.int .i64 a1)] 0 (Tb.leaf undefV), [], h⟩ (endW ctx ⟨17, [.tmp 4, .tmp 5], b36⟩ Q) = ((h.next < T.top ∧ ∀ p0 h1, p0 = h.next → h1 = h.new (.cells (.ls [(.int .i64 a0_0), (.int .i64 a0_1), (.int .i64 a0_2), (.int .i64 a0_3), (.bool a0_4), (.bool a0_5)]) ⟨0, 25, 0⟩ true false) → ∃ (x2 : Int) (x3 : Int) (x4 : Int) (x5 : Int) (b6 : Bool) (b7 : Bool), ald ctx 24 h1 (.ptr p0 0) = some (.agg [(.int .i64 x2), (.int .i64 x3), (.int .i64 x4), (.int .i64 x5), (.bool b6), (.bool b7)]) ∧ RF Try.prog ctx 47 [(.agg [(.int .i64 x2), (.int .i64 x3), (.int .i64 x4), (.int .i64 x5), (.bool b6), (.bool b7)]), (.int .i64 a1)] h1 (fun v8 h9 => ∃ (v10 : V) (x11 : Int), v8 = (.tuple [v10, (.int .i64 x11)]) ∧ ∃ (x12 : Int), alen ctx 22 h9 v10 = some (.int .i64 x12) ∧ Q (.tuple [(.int .i64 x12), (.int .i64 x11)]) h9))) := by kernel_rfl

/- cheesepress/cheesepresskit.Noise -/
def l37_0 : Code :=
 (.seq
  (.seq
   (.region 4 ⟨[O1 (some 15) 3 (.move (t 8)),
     O1 (some 16) 3 (.move (t 1)),
     O1 (some 17) 4 (.binOp .lss 3 (t 15) (t 16) 3),
     O1 (some 18) 4 (.move (t 17)),
     O2 (some 19) 3 (.move (t 8)) (3, true),
     O2 (some 20) 4 (.binOp .lss 3 (t 19) (ci 4096) 3) (3, true),
     O1 (some 21) 4 (.pick (t 18) (t 20) (.const (.bool false)))]⟩ false)
   (.cond (t 21)
    .skip
    (.exit 0)))
  (.seq
   (.block 1
    (.seq
     (.region 6 ⟨[O1 (some 24) 3 (.move (t 0)),
       O1 (some 25) 3 (.binOp .mul 3 (t 24) (ci 75) 3),
       O1 (some 26) 3 (.binOp .add 3 (t 25) (ci 74) 3),
       O1 (some 27) 3 (.call ⟨(.value (.func 7)), #[(t 26), (ci 65537)], #[3, 3]⟩),
       O1 (some 0) 3 (.assign (t 27))]⟩ false)
     (.region 7 ⟨[O1 (some 28) 69 (.move (t 7)),
       O1 (some 29) 3 (.move (t 0)),
       O1 (some 30) 3 (.binOp .quo 3 (t 29) (ci 7) 3),
       O1 (some 31) 3 (.move (t 2)),
       O1 (some 32) 3 (.call ⟨(.builtin .min), #[(t 31), (ci 256)], #[3, 3]⟩),
       O1 (some 33) 3 (.call ⟨(.builtin .max), #[(ci 1), (t 32)], #[3, 3]⟩),
       O1 (some 34) 3 (.call ⟨(.value (.func 7)), #[(t 30), (t 33)], #[3, 3]⟩),
       O1 (some 35) 5 (.convert 3 5 (t 34)),
       O1 (some 36) 69 (.buildSlice 69 1 #[(0, (t 35))]),
       O1 (some 37) 69 (.call ⟨(.builtin .append), #[(t 28), (t 36)], #[69, 69]⟩),
       O1 (some 7) 69 (.assign (t 37))]⟩ false)))
   (.region 5 ⟨[O1 (some 22) 3 (.move (t 8)),
     O1 (some 23) 3 (.binOp .add 3 (t 22) (ci 1) 3),
     O1 (some 8) 3 (.assign (t 23))]⟩ false)))
def r37_1 : Code :=
 (.seq
  (.region 8 ⟨[O1 (some 38) 69 (.move (t 7)),
    O1 (some 39) 9 (.convert 69 9 (t 38)),
    O1 (some 6) 9 (.assign (t 39))]⟩ false)
  .ret)
def b37 : Code :=
 (.seq
  (.region 0 ⟨[O1 (some 6) 9 (.assign (cs []))]⟩ false)
  (.seq
   (.region 1 ⟨[O1 (some 9) 3 (.move (t 0)),
     O1 (some 10) 3 (.call ⟨(.value (.func 7)), #[(t 9), (ci 65537)], #[3, 3]⟩),
     O1 (some 0) 3 (.assign (t 10))]⟩ false)
   (.seq
    (.region 2 ⟨[O1 (some 11) 3 (.move (t 1)),
      O1 (some 12) 3 (.call ⟨(.builtin .min), #[(t 11), (ci 4096)], #[3, 3]⟩),
      O1 (some 13) 3 (.call ⟨(.builtin .max), #[(ci 0), (t 12)], #[3, 3]⟩),
      O1 (some 14) 69 (.makeSlice 69 (ci 0) (t 13)),
      O1 (some 7) 69 (.assign (t 14))]⟩ false)
    (.seq
     (.seq
      (.region 3 ⟨[O1 (some 8) 3 (.assign (ci 0))]⟩ false)
      (.block 0
       (.loop l37_0)))
     r37_1))))
theorem fn37 : (ctx.fn.get 37).map slimF = some ⟨40, [.tmp 6], b37⟩ := by kernel_rfl
theorem vl37_0 (tm : Tm) (y8 : Int) (y1 : Int) (y0 : Int) (y7 : V) (y2 : Int) (d : List AD) (h : H) (Q : AX → St → Prop) : wpC Try.prog ctx false l37_0 ⟨40, (Tb.set (Tb.set (Tb.set (Tb.set (Tb.set tm 8 (.int .i64 y8)) 1 (.int .i64 y1)) 0 (.int .i64 y0)) 7 y7) 2 (.int .i64 y2)), d, h⟩ (sealQ [6, 8, 1, 0, 7, 2] Q) = (((y8 < y1 → ((y8 < (4096 : Int) → RF Try.prog ctx 7 [(.int .i64 (w64 ((w64 (y0 * (75 : Int))) + (74 : Int)))), (.int .i64 (65537 : Int))] h (fun v0 h1 => ∃ (x2 : Int), v0 = (.int .i64 x2) ∧ ((7 : Int) ≠ 0 ∧ RF Try.prog ctx 7 [(.int .i64 (w64 (Int.tdiv x2 (7 : Int)))), (.int .i64 (max (1 : Int) (min y2 (256 : Int))))] h1 (fun v3 h4 => ∃ (x5 : Int), v3 = (.int .i64 x5) ∧ ∃ v6 h7, abuildSlice ctx 69 1 [(0, (.int .u8 (wrapF .u8 (x5))))] h4 = some (v6, h7) ∧ (True ∧ ∃ v8 h9, aappend ctx 69 h7 y7 v6 = some (v8, h9) ∧ (∀ tm', getV tm' 6 = getV tm 6 → getV tm' 8 = (.int .i64 (w64 (y8 + (1 : Int)))) → getV tm' 1 = (.int .i64 y1) → getV tm' 0 = (.int .i64 x2) → getV tm' 7 = v8 → getV tm' 2 = (.int .i64 y2) → Q .normal ⟨40, tm', d, h9⟩)))))) ∧ (¬(y8 < (4096 : Int)) → (∀ tm', getV tm' 6 = getV tm 6 → getV tm' 8 = (.int .i64 y8) → getV tm' 1 = (.int .i64 y1) → getV tm' 0 = (.int .i64 y0) → getV tm' 7 = y7 → getV tm' 2 = (.int .i64 y2) → Q (.exit 0) ⟨40, tm', d, h⟩)))) ∧ (¬(y8 < y1) → (∀ tm', getV tm' 6 = getV tm 6 → getV tm' 8 = (.int .i64 y8) → getV tm' 1 = (.int .i64 y1) → getV tm' 0 = (.int .i64 y0) → getV tm' 7 = y7 → getV tm' 2 = (.int .i64 y2) → Q (.exit 0) ⟨40, tm', d, h⟩)))) := by kernel_rfl
theorem vr37_1 (tm : Tm) (y7 : V) (d : List AD) (h : H) (Q : AX → St → Prop) : wpC Try.prog ctx false r37_1 ⟨40, (Tb.set tm 7 y7), d, h⟩ (sealQ [6, 8, 1, 0, 7, 2] Q) = (wpConv ctx 69 9 h y7 (fun v0 h1 => (∀ tm', getV tm' 6 = v0 → getV tm' 8 = getV tm 8 → getV tm' 1 = getV tm 1 → getV tm' 0 = getV tm 0 → getV tm' 7 = y7 → getV tm' 2 = getV tm 2 → Q .ret ⟨40, tm', d, h1⟩))) := by kernel_rfl
theorem vb37 (a0 : Int) (a1 : Int) (a2 : Int) (h : H) (Q : V → H → Prop) : wpC Try.prog ctx false b37 ⟨40, setArgs [(.int .i64 a0), (.int .i64 a1), (.int .i64 a2)] 0 (Tb.leaf undefV), [], h⟩ (endW ctx ⟨40, [.tmp 6], b37⟩ Q) = (RF Try.prog ctx 7 [(.int .i64 a0), (.int .i64 (65537 : Int))] h (fun v0 h1 => ∃ (x2 : Int), v0 = (.int .i64 x2) ∧ ∃ v3 h4, amake ctx 69 (.int .i64 (0 : Int)) (.int .i64 (max (0 : Int) (min a1 (4096 : Int)))) h1 = some (v3, h4) ∧ wpC Try.prog ctx false (.loop l37_0) ⟨40, (Tb.set (Tb.set (Tb.set (Tb.set (Tb.set (Tb.set (Tb.set (Tb.set (Tb.set (Tb.set (Tb.set (Tb.set (Tb.set (Tb.leaf undefV) 0 (.int .i64 a0)) 1 (.int .i64 a1)) 2 (.int .i64 a2)) 6 (.str [])) 9 (.int .i64 a0)) 10 (.int .i64 x2)) 0 (.int .i64 x2)) 11 (.int .i64 a1)) 12 (.int .i64 (min a1 (4096 : Int)))) 13 (.int .i64 (max (0 : Int) (min a1 (4096 : Int))))) 14 v3) 7 v3) 8 (.int .i64 (0 : Int))), [], h4⟩ (fun e s1 => (thenC (fun s1 => wpC Try.prog ctx false r37_1 s1 (endW ctx ⟨40, [.tmp 6], b37⟩ Q)) (endW ctx ⟨40, [.tmp 6], b37⟩ Q)) (exitB 0 e) s1))) := by kernel_rfl

/- cheesepress/cutter.Ends -/
def a38_0 : Code :=
 (.seq
  (.region 6 #[⟨(some 8), .assign (t 19), 3, "cutter.go:134", #[], none⟩] false)
  (.region 7 #[⟨(some 9), .assign (t 20), 3, "cutter.go:134", #[], none⟩] false))
def g38_1 : Code :=
 (.block 1
  (.seq
   (.seq
    (.region 8 #[⟨(some 21), .move (t 8), 3, "cutter.go:135", #[], none⟩,
      ⟨(some 22), .binOp .eql 3 (t 21) (ci 4096) 3, 4, "cutter.go:135", #[⟨0, .data⟩], none⟩] false)
    (.cond (t 22)
     (.seq
      (.region 9 #[⟨none, .store 22 (t 4) (.const (.slice none 0 0)), 0, "cutter.go:136", #[], none⟩,
        ⟨none, .store 28 (t 5) (ci 6), 0, "cutter.go:136", #[⟨0, .chain⟩, ⟨0, .phase⟩], none⟩] false)
      .ret)
     .skip))
   (.region 10 #[⟨(some 23), .load 22 (t 7), 22, "cutter.go:138", #[], none⟩,
     ⟨(some 24), .move (t 9), 3, "cutter.go:138", #[], none⟩,
     ⟨(some 25), .buildSlice 22 1 #[(0, (t 24))], 22, "cutter.go:138", #[⟨1, .data⟩], none⟩,
     ⟨(some 26), .call ⟨(.builtin .append), #[(t 23), (t 25)], #[22, 22]⟩, 22, "cutter.go:138", #[⟨0, .data⟩, ⟨2, .data⟩], none⟩,
     ⟨none, .store 22 (t 7) (t 26), 0, "cutter.go:138", #[⟨3, .data⟩, ⟨3, .chain⟩, ⟨0, .phase⟩, ⟨1, .phase⟩, ⟨2, .phase⟩, ⟨3, .phase⟩], none⟩] false)))
def q38_2 : Code := .rangeFunc (t 18) #[19, 20] a38_0 g38_1
def r38_3 : Code :=
 (.seq
  (.region 11 ⟨[O1 (some 27) 22 (.load 22 (t 7)),
    O1 none 0 (.store 22 (t 4) (t 27)),
    O1 none 0 (.store 28 (t 5) (ci 0))]⟩ false)
  .ret)
def b38 : Code :=
 (.seq
  (.region 0 ⟨[O1 (some 2) 0 (.box 24 (t 0)),
    O1 (some 4) 0 (.alloc 22),
    O1 (some 5) 0 (.alloc 28)]⟩ false)
  (.seq
   (.seq
    (.region 1 ⟨[O1 (some 10) 24 (.load 24 (t 2)),
      O1 (some 11) 9 (.move (t 1)),
      O1 (some 12) 28 (.call ⟨(.value (.func 48)), #[(t 10), (t 11)], #[24, 9]⟩),
      O1 (some 6) 28 (.assign (t 12))]⟩ false)
    (.seq
     (.region 2 ⟨[O1 (some 13) 28 (.move (t 6)),
       O1 (some 14) 4 (.binOp .neq 28 (t 13) (ci 0) 28)]⟩ false)
     (.cond (t 14)
      (.seq
       (.region 3 ⟨[O1 (some 15) 28 (.move (t 6)),
         O1 none 0 (.store 22 (t 4) (.const (.slice none 0 0))),
         O1 none 0 (.store 28 (t 5) (t 15))]⟩ false)
       .ret)
      .skip)))
   (.seq
    (.region 4 ⟨[O1 (some 7) 0 (.alloc 22)]⟩ false)
    (.seq
     (.seq
      (.region 5 ⟨[O1 (some 16) 24 (.load 24 (t 2)),
        O1 (some 17) 9 (.move (t 1)),
        O1 (some 18) 72 (.call ⟨(.value (.func 49)), #[(t 16), (t 17)], #[24, 9]⟩)]⟩ false)
      (.block 0
       q38_2))
     r38_3))))
theorem fn38 : (ctx.fn.get 38).map slimF = some ⟨28, [.cell 4 22, .cell 5 28], b38⟩ := by kernel_rfl
theorem va38_0 (tm : Tm) (y19 : V) (y20 : V) (d : List AD) (h : H) (Q : AX → St → Prop) : wpC Try.prog ctx true (slim a38_0) ⟨28, (Tb.set (Tb.set tm 19 y19) 20 y20), d, h⟩ (sealQ [4, 5, 19, 20, 8, 7, 9] Q) = ((∀ tm', getV tm' 4 = getV tm 4 → getV tm' 5 = getV tm 5 → getV tm' 19 = y19 → getV tm' 20 = y20 → getV tm' 8 = y19 → getV tm' 7 = getV tm 7 → getV tm' 9 = y20 → Q .normal ⟨28, tm', d, h⟩)) := by kernel_rfl
theorem vg38_1 (tm : Tm) (y8 : Int) (y4 : V) (y5 : V) (y7 : V) (y9 : Int) (d : List AD) (h : H) (Q : AX → St → Prop) : wpC Try.prog ctx true (slim g38_1) ⟨28, (Tb.set (Tb.set (Tb.set (Tb.set (Tb.set tm 8 (.int .i64 y8)) 4 y4) 5 y5) 7 y7) 9 (.int .i64 y9)), d, h⟩ (sealQ [4, 5, 19, 20, 8, 7, 9] Q) = (((y8 = (4096 : Int) → ∃ h0, ast ctx 22 h y4 .nilslice = some h0 ∧ ∃ h1, ast ctx 28 h0 y5 (.int .i64 (6 : Int)) = some h1 ∧ (∀ tm', getV tm' 4 = y4 → getV tm' 5 = y5 → getV tm' 19 = getV tm 19 → getV tm' 20 = getV tm 20 → getV tm' 8 = (.int .i64 y8) → getV tm' 7 = y7 → getV tm' 9 = (.int .i64 y9) → Q .ret ⟨28, tm', d, h1⟩)) ∧ (¬(y8 = (4096 : Int)) → ∃ (v2 : V), ald ctx 22 h y7 = some v2 ∧ ∃ v3 h4, abuildSlice ctx 22 1 [(0, (.int .i64 y9))] h = some (v3, h4) ∧ (True ∧ ∃ v5 h6, aappend ctx 22 h4 v2 v3 = some (v5, h6) ∧ ∃ h7, ast ctx 22 h6 y7 v5 = some h7 ∧ (∀ tm', getV tm' 4 = y4 → getV tm' 5 = y5 → getV tm' 19 = getV tm 19 → getV tm' 20 = getV tm 20 → getV tm' 8 = (.int .i64 y8) → getV tm' 7 = y7 → getV tm' 9 = (.int .i64 y9) → Q .normal ⟨28, tm', d, h7⟩))))) := by kernel_rfl
theorem vr38_3 (tm : Tm) (y7 : V) (y4 : V) (y5 : V) (d : List AD) (h : H) (Q : AX → St → Prop) : wpC Try.prog ctx false r38_3 ⟨28, (Tb.set (Tb.set (Tb.set tm 7 y7) 4 y4) 5 y5), d, h⟩ (sealQ [4, 5, 19, 20, 8, 7, 9] Q) = (∃ (v0 : V), ald ctx 22 h y7 = some v0 ∧ ∃ h1, ast ctx 22 h y4 v0 = some h1 ∧ ∃ h2, ast ctx 28 h1 y5 (.int .i64 (0 : Int)) = some h2 ∧ (∀ tm', getV tm' 4 = y4 → getV tm' 5 = y5 → getV tm' 19 = getV tm 19 → getV tm' 20 = getV tm 20 → getV tm' 8 = getV tm 8 → getV tm' 7 = y7 → getV tm' 9 = getV tm 9 → Q .ret ⟨28, tm', d, h2⟩)) := by kernel_rfl
theorem vb38 (a0_0 : Int) (a0_1 : Int) (a0_2 : Int) (a0_3 : Int) (a0_4 : Bool) (a0_5 : Bool) (a1 : List UInt8) (h : H) (Q : V → H → Prop) : wpC Try.prog ctx false b38 ⟨28, setArgs [(.agg [(.int .i64 a0_0), (.int .i64 a0_1), (.int .i64 a0_2), (.int .i64 a0_3), (.bool a0_4), (.bool a0_5)]), (.str a1)] 0 (Tb.leaf undefV), [], h⟩ (endW ctx ⟨28, [.cell 4 22, .cell 5 28], b38⟩ Q) = ((h.next < T.top ∧ ∀ p0 h1, p0 = h.next → h1 = h.new (.cells (.ls [(.int .i64 a0_0), (.int .i64 a0_1), (.int .i64 a0_2), (.int .i64 a0_3), (.bool a0_4), (.bool a0_5)]) ⟨0, 25, 0⟩ true false) → (V.one .nilslice = true ∧ h1.next < T.top ∧ ∀ p2 h3, p2 = h1.next → h3 = h1.new (.cells (.ls [.nilslice]) ⟨0, 23, 0⟩ true false) → (V.one (.int .i64 (0 : Int)) = true ∧ h3.next < T.top ∧ ∀ p4 h5, p4 = h3.next → h5 = h3.new (.cells (.ls [(.int .i64 (0 : Int))]) ⟨0, 29, 0⟩ true false) → ∃ (x6 : Int) (x7 : Int) (x8 : Int) (x9 : Int) (b10 : Bool) (b11 : Bool), ald ctx 24 h5 (.ptr p0 0) = some (.agg [(.int .i64 x6), (.int .i64 x7), (.int .i64 x8), (.int .i64 x9), (.bool b10), (.bool b11)]) ∧ RF Try.prog ctx 48 [(.agg [(.int .i64 x6), (.int .i64 x7), (.int .i64 x8), (.int .i64 x9), (.bool b10), (.bool b11)]), (.str a1)] h5 (fun v12 h13 => ∃ (x14 : Int), v12 = (.int .i64 x14) ∧ ((x14 ≠ (0 : Int) → ∃ h15, ast ctx 22 h13 (.ptr p2 0) .nilslice = some h15 ∧ ∃ h16, ast ctx 28 h15 (.ptr p4 0) (.int .i64 x14) = some h16 ∧ (endW ctx ⟨28, [.cell 4 22, .cell 5 28], b38⟩ Q) .ret ⟨28, (Tb.set (Tb.set (Tb.set (Tb.set (Tb.set (Tb.set (Tb.set (Tb.set (Tb.set (Tb.set (Tb.set (Tb.set (Tb.leaf undefV) 0 (.agg [(.int .i64 a0_0), (.int .i64 a0_1), (.int .i64 a0_2), (.int .i64 a0_3), (.bool a0_4), (.bool a0_5)])) 1 (.str a1)) 2 (.ptr p0 0)) 4 (.ptr p2 0)) 5 (.ptr p4 0)) 10 (.agg [(.int .i64 x6), (.int .i64 x7), (.int .i64 x8), (.int .i64 x9), (.bool b10), (.bool b11)])) 11 (.str a1)) 12 (.int .i64 x14)) 6 (.int .i64 x14)) 13 (.int .i64 x14)) 14 (.bool true)) 15 (.int .i64 x14)), [], h16⟩) ∧ (¬(x14 ≠ (0 : Int)) → (V.one .nilslice = true ∧ h13.next < T.top ∧ ∀ p17 h18, p17 = h13.next → h18 = h13.new (.cells (.ls [.nilslice]) ⟨0, 23, 0⟩ true false) → ∃ (x19 : Int) (x20 : Int) (x21 : Int) (x22 : Int) (b23 : Bool) (b24 : Bool), ald ctx 24 h18 (.ptr p0 0) = some (.agg [(.int .i64 x19), (.int .i64 x20), (.int .i64 x21), (.int .i64 x22), (.bool b23), (.bool b24)]) ∧ RF Try.prog ctx 49 [(.agg [(.int .i64 x19), (.int .i64 x20), (.int .i64 x21), (.int .i64 x22), (.bool b23), (.bool b24)]), (.str a1)] h18 (fun v25 h26 => ∃ (v27 : V), v25 = v27 ∧ RC Try.prog false q38_2 ⟨28, (Tb.set (Tb.set (Tb.set (Tb.set (Tb.set (Tb.set (Tb.set (Tb.set (Tb.set (Tb.set (Tb.set (Tb.set (Tb.set (Tb.set (Tb.set (Tb.leaf undefV) 0 (.agg [(.int .i64 a0_0), (.int .i64 a0_1), (.int .i64 a0_2), (.int .i64 a0_3), (.bool a0_4), (.bool a0_5)])) 1 (.str a1)) 2 (.ptr p0 0)) 4 (.ptr p2 0)) 5 (.ptr p4 0)) 10 (.agg [(.int .i64 x6), (.int .i64 x7), (.int .i64 x8), (.int .i64 x9), (.bool b10), (.bool b11)])) 11 (.str a1)) 12 (.int .i64 x14)) 6 (.int .i64 x14)) 13 (.int .i64 x14)) 14 (.bool false)) 7 (.ptr p17 0)) 16 (.agg [(.int .i64 x19), (.int .i64 x20), (.int .i64 x21), (.int .i64 x22), (.bool b23), (.bool b24)])) 17 (.str a1)) 18 v27), [], h26⟩ (fun e s1 => (thenC (fun s1 => wpC Try.prog ctx false r38_3 s1 (endW ctx ⟨28, [.cell 4 22, .cell 5 28], b38⟩ Q)) (endW ctx ⟨28, [.cell 4 22, .cell 5 28], b38⟩ Q)) (exitB 0 e) s1)))))))))) := by kernel_rfl

/- cheesepress/cheesepressref21.Window -/
def b39 : Code :=
 (.seq
  (.region 0 ⟨[O1 (some 1) 0 (.box 24 (t 0)),
    O1 (some 2) 3 (.assign (ci 0)),
    O1 (some 3) 28 (.assign (ci 0))]⟩ false)
  (.seq
   (.region 1 ⟨[O1 (some 5) 24 (.load 24 (t 1)),
     O1 (some 6) 28 (.call ⟨(.value (.func 32)), #[(t 5)], #[24]⟩),
     O1 (some 4) 28 (.assign (t 6))]⟩ false)
   (.seq
    (.seq
     (.region 2 ⟨[O1 (some 7) 28 (.move (t 4)),
       O1 (some 8) 4 (.binOp .neq 28 (t 7) (ci 0) 28)]⟩ false)
     (.cond (t 8)
      (.seq
       (.region 3 ⟨[O1 (some 9) 28 (.move (t 4)),
         O1 (some 2) 3 (.assign (ci 0)),
         O1 (some 3) 28 (.assign (t 9))]⟩ false)
       .ret)
      .skip))
    (.seq
     (.region 4 ⟨[O1 (some 10) 0 (.fieldAddr 24 (t 1) 1),
       O1 (some 11) 3 (.load 3 (t 10)),
       O1 (some 12) 74 (.convert 3 74 (t 11)),
       O1 (some 13) 3 (.binOp .shl 3 (ci 1) (t 12) 74),
       O1 (some 2) 3 (.assign (t 13)),
       O1 (some 3) 28 (.assign (ci 0))]⟩ false)
     .ret))))
theorem fn39 : (ctx.fn.get 39).map slimF = some ⟨14, [.tmp 2, .tmp 3], b39⟩ := by kernel_rfl
theorem vb39 (a0_0 : Int) (a0_1 : Int) (a0_2 : Int) (a0_3 : Int) (a0_4 : Bool) (a0_5 : Bool) (h : H) (Q : V → H → Prop) : wpC Try.prog ctx false b39 ⟨14, setArgs [(.agg [(.int .i64 a0_0), (.int .i64 a0_1), (.int .i64 a0_2), (.int .i64 a0_3), (.bool a0_4), (.bool a0_5)])] 0 (Tb.leaf undefV), [], h⟩ (endW ctx ⟨14, [.tmp 2, .tmp 3], b39⟩ Q) = ((h.next < T.top ∧ ∀ p0 h1, p0 = h.next → h1 = h.new (.cells (.ls [(.int .i64 a0_0), (.int .i64 a0_1), (.int .i64 a0_2), (.int .i64 a0_3), (.bool a0_4), (.bool a0_5)]) ⟨0, 25, 0⟩ true false) → ∃ (x2 : Int) (x3 : Int) (x4 : Int) (x5 : Int) (b6 : Bool) (b7 : Bool), ald ctx 24 h1 (.ptr p0 0) = some (.agg [(.int .i64 x2), (.int .i64 x3), (.int .i64 x4), (.int .i64 x5), (.bool b6), (.bool b7)]) ∧ RF Try.prog ctx 32 [(.agg [(.int .i64 x2), (.int .i64 x3), (.int .i64 x4), (.int .i64 x5), (.bool b6), (.bool b7)])] h1 (fun v8 h9 => ∃ (x10 : Int), v8 = (.int .i64 x10) ∧ ((x10 ≠ (0 : Int) → Q (.tuple [(.int .i64 (0 : Int)), (.int .i64 x10)]) h9) ∧ (¬(x10 ≠ (0 : Int)) → ∃ (x11 : Int), ald ctx 3 h9 (.ptr p0 (0 + 1)) = some (.int .i64 x11) ∧ ∃ (x12 : Int), intB .shl .i64 (1 : Int) (wrapF .u64 (x11)) = some (.int .i64 x12) ∧ Q (.tuple [(.int .i64 x12), (.int .i64 (0 : Int))]) h9))))) := by kernel_rfl

/- cheesepress/params.within[int] -/
def b40 : Code :=
 (.seq
  (.region 0 ⟨[O1 (some 6) 4 (.assign (.const (.bool false)))]⟩ false)
  (.seq
   (.region 1 ⟨[O1 (some 7) 3 (.move (t 0)),
     O1 (some 8) 3 (.move (t 1)),
     O1 (some 9) 4 (.binOp .geq 3 (t 7) (t 8) 3),
     O1 (some 10) 4 (.move (t 9)),
     O2 (some 11) 3 (.move (t 0)) (3, true),
     O2 (some 12) 3 (.move (t 2)) (3, true),
     O2 (some 13) 4 (.binOp .leq 3 (t 11) (t 12) 3) (3, true),
     O1 (some 14) 4 (.pick (t 10) (t 13) (.const (.bool false))),
     O1 (some 6) 4 (.assign (t 14))]⟩ false)
   .ret))
theorem fn40 : (ctx.fn.get 40).map slimF = some ⟨15, [.tmp 6], b40⟩ := by kernel_rfl
theorem vb40 (a0 : Int) (a1 : Int) (a2 : Int) (h : H) (Q : V → H → Prop) : wpC Try.prog ctx false b40 ⟨15, setArgs [(.int .i64 a0), (.int .i64 a1), (.int .i64 a2)] 0 (Tb.leaf undefV), [], h⟩ (endW ctx ⟨15, [.tmp 6], b40⟩ Q) = (((a1 ≤ a0 → ((a0 ≤ a2 → Q (.bool true) h) ∧ (¬(a0 ≤ a2) → Q (.bool false) h))) ∧ (¬(a1 ≤ a0) → Q (.bool false) h))) := by kernel_rfl

/- slices.Min[cheesepress/jobs.list,int] -/
def l41_0 : Code :=
 (.seq
  (.seq
   (.region 5 ⟨[O1 (some 12) 3 (.move (t 4)),
     O1 (some 13) 51 (.move (t 0)),
     O1 (some 14) 3 (.call ⟨(.builtin .len), #[(t 13)], #[51]⟩),
     O1 (some 15) 4 (.binOp .lss 3 (t 12) (t 14) 3)]⟩ false)
   (.cond (t 15)
    .skip
    (.exit 0)))
  (.seq
   (.block 1
    (.region 7 ⟨[O1 (some 18) 3 (.move (t 3)),
      O1 (some 19) 51 (.move (t 0)),
      O1 (some 20) 3 (.move (t 4)),
      O1 (some 21) 0 (.indexAddr 51 (t 19) (t 20)),
      O1 (some 22) 3 (.load 3 (t 21)),
      O1 (some 23) 3 (.call ⟨(.builtin .min), #[(t 18), (t 22)], #[3, 3]⟩),
      O1 (some 3) 3 (.assign (t 23))]⟩ false))
   (.region 6 ⟨[O1 (some 16) 3 (.move (t 4)),
     O1 (some 17) 3 (.binOp .add 3 (t 16) (ci 1) 3),
     O1 (some 4) 3 (.assign (t 17))]⟩ false)))
def r41_1 : Code :=
 (.seq
  (.region 8 ⟨[O1 (some 24) 3 (.move (t 3)),
    O1 (some 2) 3 (.assign (t 24))]⟩ false)
  .ret)
def b41 : Code :=
 (.seq
  (.region 0 ⟨[O1 (some 2) 3 (.assign (ci 0))]⟩ false)
  (.seq
   (.seq
    (.region 1 ⟨[O1 (some 5) 51 (.move (t 0)),
      O1 (some 6) 3 (.call ⟨(.builtin .len), #[(t 5)], #[51]⟩),
      O1 (some 7) 4 (.binOp .lss 3 (t 6) (ci 1) 3)]⟩ false)
    (.cond (t 7)
     (.region 2 ⟨[O1 (some 8) 20 (.makeInterface 9 (cs [115, 108, 105, 99, 101, 115, 46, 77, 105, 110, 58, 32, 101, 109, 112, 116, 121, 32, 108, 105, 115, 116])),
       O1 none 0 (.panic (t 8))]⟩ false)
     .skip))
   (.seq
    (.region 3 ⟨[O1 (some 9) 51 (.move (t 0)),
      O1 (some 10) 0 (.indexAddr 51 (t 9) (ci 0)),
      O1 (some 11) 3 (.load 3 (t 10)),
      O1 (some 3) 3 (.assign (t 11))]⟩ false)
    (.seq
     (.seq
      (.region 4 ⟨[O1 (some 4) 3 (.assign (ci 1))]⟩ false)
      (.block 0
       (.loop l41_0)))
     r41_1))))
theorem fn41 : (ctx.fn.get 41).map slimF = some ⟨25, [.tmp 2], b41⟩ := by kernel_rfl
theorem vl41_0 (tm : Tm) (y4 : Int) (y0 : V) (y3 : Int) (d : List AD) (h : H) (Q : AX → St → Prop) : wpC Try.prog ctx false l41_0 ⟨25, (Tb.set (Tb.set (Tb.set tm 4 (.int .i64 y4)) 0 y0) 3 (.int .i64 y3)), d, h⟩ (sealQ [2, 4, 0, 3] Q) = (∃ (x0 : Int), alen ctx 51 h y0 = some (.int .i64 x0) ∧ ((y4 < x0 → ∃ p1 o2, aidx ctx 51 y0 (.int .i64 y4) = some (.ptr p1 o2) ∧ ∃ (x3 : Int), ald ctx 3 h (.ptr p1 o2) = some (.int .i64 x3) ∧ (∀ tm', getV tm' 2 = getV tm 2 → getV tm' 4 = (.int .i64 (w64 (y4 + (1 : Int)))) → getV tm' 0 = y0 → getV tm' 3 = (.int .i64 (min y3 x3)) → Q .normal ⟨25, tm', d, h⟩)) ∧ (¬(y4 < x0) → (∀ tm', getV tm' 2 = getV tm 2 → getV tm' 4 = (.int .i64 y4) → getV tm' 0 = y0 → getV tm' 3 = (.int .i64 y3) → Q (.exit 0) ⟨25, tm', d, h⟩)))) := by kernel_rfl
theorem vr41_1 (tm : Tm) (y3 : Int) (d : List AD) (h : H) (Q : AX → St → Prop) : wpC Try.prog ctx false r41_1 ⟨25, (Tb.set tm 3 (.int .i64 y3)), d, h⟩ (sealQ [2, 4, 0, 3] Q) = ((∀ tm', getV tm' 2 = (.int .i64 y3) → getV tm' 4 = getV tm 4 → getV tm' 0 = getV tm 0 → getV tm' 3 = (.int .i64 y3) → Q .ret ⟨25, tm', d, h⟩)) := by kernel_rfl
theorem vb41 (a0 : V) (h : H) (Q : V → H → Prop) : wpC Try.prog ctx false b41 ⟨25, setArgs [a0] 0 (Tb.leaf undefV), [], h⟩ (endW ctx ⟨25, [.tmp 2], b41⟩ Q) = (∃ (x0 : Int), alen ctx 51 h a0 = some (.int .i64 x0) ∧ ((x0 < (1 : Int) → False) ∧ (¬(x0 < (1 : Int)) → ∃ p1 o2, aidx ctx 51 a0 (.int .i64 (0 : Int)) = some (.ptr p1 o2) ∧ ∃ (x3 : Int), ald ctx 3 h (.ptr p1 o2) = some (.int .i64 x3) ∧ wpC Try.prog ctx false (.loop l41_0) ⟨25, (Tb.set (Tb.set (Tb.set (Tb.set (Tb.set (Tb.set (Tb.set (Tb.set (Tb.set (Tb.set (Tb.leaf undefV) 0 a0) 2 (.int .i64 (0 : Int))) 5 a0) 6 (.int .i64 x0)) 7 (.bool false)) 9 a0) 10 (.ptr p1 o2)) 11 (.int .i64 x3)) 3 (.int .i64 x3)) 4 (.int .i64 (1 : Int))), [], h⟩ (fun e s1 => (thenC (fun s1 => wpC Try.prog ctx false r41_1 s1 (endW ctx ⟨25, [.tmp 2], b41⟩ Q)) (endW ctx ⟨25, [.tmp 2], b41⟩ Q)) (exitB 0 e) s1)))) := by kernel_rfl

/- slices.Max[cheesepress/jobs.list,int] -/
def l42_0 : Code :=
 (.seq
  (.seq
   (.region 5 ⟨[O1 (some 12) 3 (.move (t 4)),
     O1 (some 13) 51 (.move (t 0)),
     O1 (some 14) 3 (.call ⟨(.builtin .len), #[(t 13)], #[51]⟩),
     O1 (some 15) 4 (.binOp .lss 3 (t 12) (t 14) 3)]⟩ false)
   (.cond (t 15)
    .skip
    (.exit 0)))
  (.seq
   (.block 1
    (.region 7 ⟨[O1 (some 18) 3 (.move (t 3)),
      O1 (some 19) 51 (.move (t 0)),
      O1 (some 20) 3 (.move (t 4)),
      O1 (some 21) 0 (.indexAddr 51 (t 19) (t 20)),
      O1 (some 22) 3 (.load 3 (t 21)),
      O1 (some 23) 3 (.call ⟨(.builtin .max), #[(t 18), (t 22)], #[3, 3]⟩),
      O1 (some 3) 3 (.assign (t 23))]⟩ false))
   (.region 6 ⟨[O1 (some 16) 3 (.move (t 4)),
     O1 (some 17) 3 (.binOp .add 3 (t 16) (ci 1) 3),
     O1 (some 4) 3 (.assign (t 17))]⟩ false)))
def r42_1 : Code :=
 (.seq
  (.region 8 ⟨[O1 (some 24) 3 (.move (t 3)),
    O1 (some 2) 3 (.assign (t 24))]⟩ false)
  .ret)
def b42 : Code :=
 (.seq
  (.region 0 ⟨[O1 (some 2) 3 (.assign (ci 0))]⟩ false)
  (.seq
   (.seq
    (.region 1 ⟨[O1 (some 5) 51 (.move (t 0)),
      O1 (some 6) 3 (.call ⟨(.builtin .len), #[(t 5)], #[51]⟩),
      O1 (some 7) 4 (.binOp .lss 3 (t 6) (ci 1) 3)]⟩ false)
    (.cond (t 7)
     (.region 2 ⟨[O1 (some 8) 20 (.makeInterface 9 (cs [115, 108, 105, 99, 101, 115, 46, 77, 97, 120, 58, 32, 101, 109, 112, 116, 121, 32, 108, 105, 115, 116])),
       O1 none 0 (.panic (t 8))]⟩ false)
     .skip))
   (.seq
    (.region 3 ⟨[O1 (some 9) 51 (.move (t 0)),
      O1 (some 10) 0 (.indexAddr 51 (t 9) (ci 0)),
      O1 (some 11) 3 (.load 3 (t 10)),
      O1 (some 3) 3 (.assign (t 11))]⟩ false)
    (.seq
     (.seq
      (.region 4 ⟨[O1 (some 4) 3 (.assign (ci 1))]⟩ false)
      (.block 0
       (.loop l42_0)))
     r42_1))))
theorem fn42 : (ctx.fn.get 42).map slimF = some ⟨25, [.tmp 2], b42⟩ := by kernel_rfl
theorem vl42_0 (tm : Tm) (y4 : Int) (y0 : V) (y3 : Int) (d : List AD) (h : H) (Q : AX → St → Prop) : wpC Try.prog ctx false l42_0 ⟨25, (Tb.set (Tb.set (Tb.set tm 4 (.int .i64 y4)) 0 y0) 3 (.int .i64 y3)), d, h⟩ (sealQ [2, 4, 0, 3] Q) = (∃ (x0 : Int), alen ctx 51 h y0 = some (.int .i64 x0) ∧ ((y4 < x0 → ∃ p1 o2, aidx ctx 51 y0 (.int .i64 y4) = some (.ptr p1 o2) ∧ ∃ (x3 : Int), ald ctx 3 h (.ptr p1 o2) = some (.int .i64 x3) ∧ (∀ tm', getV tm' 2 = getV tm 2 → getV tm' 4 = (.int .i64 (w64 (y4 + (1 : Int)))) → getV tm' 0 = y0 → getV tm' 3 = (.int .i64 (max y3 x3)) → Q .normal ⟨25, tm', d, h⟩)) ∧ (¬(y4 < x0) → (∀ tm', getV tm' 2 = getV tm 2 → getV tm' 4 = (.int .i64 y4) → getV tm' 0 = y0 → getV tm' 3 = (.int .i64 y3) → Q (.exit 0) ⟨25, tm', d, h⟩)))) := by kernel_rfl
theorem vr42_1 (tm : Tm) (y3 : Int) (d : List AD) (h : H) (Q : AX → St → Prop) : wpC Try.prog ctx false r42_1 ⟨25, (Tb.set tm 3 (.int .i64 y3)), d, h⟩ (sealQ [2, 4, 0, 3] Q) = ((∀ tm', getV tm' 2 = (.int .i64 y3) → getV tm' 4 = getV tm 4 → getV tm' 0 = getV tm 0 → getV tm' 3 = (.int .i64 y3) → Q .ret ⟨25, tm', d, h⟩)) := by kernel_rfl
theorem vb42 (a0 : V) (h : H) (Q : V → H → Prop) : wpC Try.prog ctx false b42 ⟨25, setArgs [a0] 0 (Tb.leaf undefV), [], h⟩ (endW ctx ⟨25, [.tmp 2], b42⟩ Q) = (∃ (x0 : Int), alen ctx 51 h a0 = some (.int .i64 x0) ∧ ((x0 < (1 : Int) → False) ∧ (¬(x0 < (1 : Int)) → ∃ p1 o2, aidx ctx 51 a0 (.int .i64 (0 : Int)) = some (.ptr p1 o2) ∧ ∃ (x3 : Int), ald ctx 3 h (.ptr p1 o2) = some (.int .i64 x3) ∧ wpC Try.prog ctx false (.loop l42_0) ⟨25, (Tb.set (Tb.set (Tb.set (Tb.set (Tb.set (Tb.set (Tb.set (Tb.set (Tb.set (Tb.set (Tb.leaf undefV) 0 a0) 2 (.int .i64 (0 : Int))) 5 a0) 6 (.int .i64 x0)) 7 (.bool false)) 9 a0) 10 (.ptr p1 o2)) 11 (.int .i64 x3)) 3 (.int .i64 x3)) 4 (.int .i64 (1 : Int))), [], h⟩ (fun e s1 => (thenC (fun s1 => wpC Try.prog ctx false r42_1 s1 (endW ctx ⟨25, [.tmp 2], b42⟩ Q)) (endW ctx ⟨25, [.tmp 2], b42⟩ Q)) (exitB 0 e) s1)))) := by kernel_rfl

/- slices.IsSorted[cheesepress/jobs.list,int] -/
def l43_0 : Code :=
 (.seq
  (.seq
   (.region 2 ⟨[O1 (some 7) 3 (.move (t 3)),
     O1 (some 8) 4 (.binOp .gtr 3 (t 7) (ci 0) 3)]⟩ false)
   (.cond (t 8)
    .skip
    (.exit 0)))
  (.seq
   (.block 1
    (.seq
     (.region 4 #[⟨(some 11), .move (t 0), 51, "sort.go:44", #[], none⟩,
       ⟨(some 12), .move (t 3), 3, "sort.go:44", #[], none⟩,
       ⟨(some 13), .indexAddr 51 (t 11) (t 12), 0, "sort.go:44", #[⟨0, .data⟩, ⟨1, .data⟩], none⟩,
       ⟨(some 14), .load 3 (t 13), 3, "sort.go:44", #[⟨2, .data⟩], none⟩,
       ⟨(some 15), .move (t 0), 51, "sort.go:44", #[], none⟩,
       ⟨(some 16), .move (t 3), 3, "sort.go:44", #[], none⟩,
       ⟨(some 17), .binOp .sub 3 (t 16) (ci 1) 3, 3, "sort.go:44", #[⟨5, .data⟩], none⟩,
       ⟨(some 18), .indexAddr 51 (t 15) (t 17), 0, "sort.go:44", #[⟨4, .data⟩, ⟨6, .data⟩], none⟩,
       ⟨(some 19), .load 3 (t 18), 3, "sort.go:44", #[⟨7, .data⟩], none⟩,
       ⟨(some 20), .call ⟨(.value (.func 50)), #[(t 14), (t 19)], #[3, 3]⟩, 4, "sort.go:44", #[⟨3, .data⟩, ⟨8, .data⟩], none⟩] true)
     (.cond (t 20)
      (.seq
       (.region 5 ⟨[O1 (some 2) 4 (.assign (.const (.bool false)))]⟩ false)
       .ret)
      .skip)))
   (.region 3 ⟨[O1 (some 9) 3 (.move (t 3)),
     O1 (some 10) 3 (.binOp .sub 3 (t 9) (ci 1) 3),
     O1 (some 3) 3 (.assign (t 10))]⟩ false)))
def r43_1 : Code :=
 (.seq
  (.region 6 ⟨[O1 (some 2) 4 (.assign (.const (.bool true)))]⟩ false)
  .ret)
def b43 : Code :=
 (.seq
  (.region 0 ⟨[O1 (some 2) 4 (.assign (.const (.bool false)))]⟩ false)
  (.seq
   (.seq
    (.region 1 ⟨[O1 (some 4) 51 (.move (t 0)),
      O1 (some 5) 3 (.call ⟨(.builtin .len), #[(t 4)], #[51]⟩),
      O1 (some 6) 3 (.binOp .sub 3 (t 5) (ci 1) 3),
      O1 (some 3) 3 (.assign (t 6))]⟩ false)
    (.block 0
     (.loop l43_0)))
   r43_1))
theorem fn43 : (ctx.fn.get 43).map slimF = some ⟨21, [.tmp 2], b43⟩ := by kernel_rfl
theorem vl43_0 (tm : Tm) (y3 : Int) (y0 : V) (d : List AD) (h : H) (Q : AX → St → Prop) : wpC Try.prog ctx false l43_0 ⟨21, (Tb.set (Tb.set tm 3 (.int .i64 y3)) 0 y0), d, h⟩ (sealQ [2, 3, 0] Q) = ((((0 : Int) < y3 → ((h.next ≤ T.top ∧ h.low ≤ T.top) ∧ ∃ p0 o1, aidx ctx 51 y0 (.int .i64 y3) = some (.ptr p0 o1) ∧ ∃ (x2 : Int), ald ctx 3 h (.ptr p0 o1) = some (.int .i64 x2) ∧ ∃ p3 o4, aidx ctx 51 y0 (.int .i64 (w64 (y3 - (1 : Int)))) = some (.ptr p3 o4) ∧ ∃ (x5 : Int), ald ctx 3 h (.ptr p3 o4) = some (.int .i64 x5) ∧ RF Try.prog ctx 50 [(.int .i64 x2), (.int .i64 x5)] h (fun v6 h7 => ∃ (b8 : Bool), v6 = (.bool b8) ∧ ((b8 = true → (∀ tm', getV tm' 2 = (.bool false) → getV tm' 3 = (.int .i64 y3) → getV tm' 0 = y0 → Q .ret ⟨21, tm', d, h7⟩)) ∧ (b8 = false → (∀ tm', getV tm' 2 = getV tm 2 → getV tm' 3 = (.int .i64 (w64 (y3 - (1 : Int)))) → getV tm' 0 = y0 → Q .normal ⟨21, tm', d, h7⟩)))))) ∧ (¬((0 : Int) < y3) → (∀ tm', getV tm' 2 = getV tm 2 → getV tm' 3 = (.int .i64 y3) → getV tm' 0 = y0 → Q (.exit 0) ⟨21, tm', d, h⟩)))) := by kernel_rfl
theorem vr43_1 (tm : Tm)  (d : List AD) (h : H) (Q : AX → St → Prop) : wpC Try.prog ctx false r43_1 ⟨21, tm, d, h⟩ (sealQ [2, 3, 0] Q) = ((∀ tm', getV tm' 2 = (.bool true) → getV tm' 3 = getV tm 3 → getV tm' 0 = getV tm 0 → Q .ret ⟨21, tm', d, h⟩)) := by kernel_rfl
theorem vb43 (a0 : V) (h : H) (Q : V → H → Prop) : wpC Try.prog ctx false b43 ⟨21, setArgs [a0] 0 (Tb.leaf undefV), [], h⟩ (endW ctx ⟨21, [.tmp 2], b43⟩ Q) = (∃ (x0 : Int), alen ctx 51 h a0 = some (.int .i64 x0) ∧ wpC Try.prog ctx false (.loop l43_0) ⟨21, (Tb.set (Tb.set (Tb.set (Tb.set (Tb.set (Tb.set (Tb.leaf undefV) 0 a0) 2 (.bool false)) 4 a0) 5 (.int .i64 x0)) 6 (.int .i64 (w64 (x0 - (1 : Int))))) 3 (.int .i64 (w64 (x0 - (1 : Int))))), [], h⟩ (fun e s1 => (thenC (fun s1 => wpC Try.prog ctx false r43_1 s1 (endW ctx ⟨21, [.tmp 2], b43⟩ Q)) (endW ctx ⟨21, [.tmp 2], b43⟩ Q)) (exitB 0 e) s1)) := by kernel_rfl

/- cheesepress/jobs.all -/
def b44 : Code :=
 (.seq
  (.region 0 ⟨[O1 (some 2) 0 (.box 24 (t 0)),
    O1 (some 3) 0 (.box 22 (t 1)),
    O1 (some 4) 65 (.assign (.const .nilFunc))]⟩ false)
  (.seq
   (.region 1 ⟨[O1 (some 5) 64 (.makeFunc (.func 51) #[] #[(t 2), (t 3)]),
     O1 (some 4) 65 (.assign (t 5))]⟩ false)
   .ret))
theorem fn44 : (ctx.fn.get 44).map slimF = some ⟨6, [.tmp 4], b44⟩ := by kernel_rfl
theorem vb44 (a0_0 : Int) (a0_1 : Int) (a0_2 : Int) (a0_3 : Int) (a0_4 : Bool) (a0_5 : Bool) (a1 : V) (h : H) (Q : V → H → Prop) : wpC Try.prog ctx false b44 ⟨6, setArgs [(.agg [(.int .i64 a0_0), (.int .i64 a0_1), (.int .i64 a0_2), (.int .i64 a0_3), (.bool a0_4), (.bool a0_5)]), a1] 0 (Tb.leaf undefV), [], h⟩ (endW ctx ⟨6, [.tmp 4], b44⟩ Q) = ((h.next < T.top ∧ ∀ p0 h1, p0 = h.next → h1 = h.new (.cells (.ls [(.int .i64 a0_0), (.int .i64 a0_1), (.int .i64 a0_2), (.int .i64 a0_3), (.bool a0_4), (.bool a0_5)]) ⟨0, 25, 0⟩ true false) → (V.one a1 = true ∧ h1.next < T.top ∧ ∀ p2 h3, p2 = h1.next → h3 = h1.new (.cells (.ls [a1]) ⟨0, 23, 0⟩ true false) → Q (.func (.func 51) [] [(.ptr p0 0), (.ptr p2 0)]) h3))) := by kernel_rfl

/- cheesepress/cheesepresslaw36.least -/
def b45 : Code :=
 (.seq
  (.region 0 ⟨[O1 (some 0) 0 (.alloc 24)]⟩ false)
  (.seq
   (.region 1 ⟨[O1 (some 1) 24 (.build 24 #[(0, (ci 1)), (1, (ci 10)), (2, (ci 16)), (3, (ci 9))]),
     O1 none 0 (.store 24 (t 0) (t 1))]⟩ false)
   .ret))
theorem fn45 : (ctx.fn.get 45).map slimF = some ⟨2, [.cell 0 24], b45⟩ := by kernel_rfl
theorem vb45  (h : H) (Q : V → H → Prop) : wpC Try.prog ctx false b45 ⟨2, setArgs [] 0 (Tb.leaf undefV), [], h⟩ (endW ctx ⟨2, [.cell 0 24], b45⟩ Q) = ((h.next < T.top ∧ ∀ p0 h1, p0 = h.next → h1 = h.new (.cells (.ls [(.int .i64 (0 : Int)), (.int .i64 (0 : Int)), (.int .i64 (0 : Int)), (.int .i64 (0 : Int)), (.bool false), (.bool false)]) ⟨0, 25, 0⟩ true false) → ∃ h2, ast ctx 24 h1 (.ptr p0 0) (.agg [(.int .i64 (1 : Int)), (.int .i64 (10 : Int)), (.int .i64 (16 : Int)), (.int .i64 (9 : Int)), (.bool false), (.bool false)]) = some h2 ∧ (endW ctx ⟨2, [.cell 0 24], b45⟩ Q) .ret ⟨2, (Tb.set (Tb.set (Tb.leaf undefV) 0 (.ptr p0 0)) 1 (.agg [(.int .i64 (1 : Int)), (.int .i64 (10 : Int)), (.int .i64 (16 : Int)), (.int .i64 (9 : Int)), (.bool false), (.bool false)])), [], h2⟩)) := by kernel_rfl

/- cheesepress/pieces.Ends -/
def a46_0 : Code :=
 (.region 6 #[⟨(some 10), .assign (t 24), 3, "pieces.go:39", #[], none⟩] false)
def g46_1 : Code :=
 (.block 1
  (.region 7 #[⟨(some 25), .load 22 (t 8), 22, "pieces.go:40", #[], none⟩,
    ⟨(some 26), .move (t 10), 3, "pieces.go:40", #[], none⟩,
    ⟨(some 27), .buildSlice 22 1 #[(0, (t 26))], 22, "pieces.go:40", #[⟨1, .data⟩], none⟩,
    ⟨(some 28), .call ⟨(.builtin .append), #[(t 25), (t 27)], #[22, 22]⟩, 22, "pieces.go:40", #[⟨0, .data⟩, ⟨2, .data⟩], none⟩,
    ⟨none, .store 22 (t 8) (t 28), 0, "pieces.go:40", #[⟨3, .data⟩, ⟨3, .chain⟩, ⟨0, .phase⟩, ⟨1, .phase⟩, ⟨2, .phase⟩, ⟨3, .phase⟩], none⟩] false))
def q46_2 : Code := .rangeFunc (t 22) #[23, 24] a46_0 g46_1
def r46_3 : Code :=
 (.seq
  (.region 8 ⟨[O1 (some 29) 22 (.load 22 (t 8)),
    O1 (some 4) 22 (.assign (t 29)),
    O1 (some 5) 28 (.assign (ci 0))]⟩ false)
  .ret)
def b46 : Code :=
 (.seq
  (.region 0 ⟨[O1 (some 2) 0 (.box 24 (t 0)),
    O1 (some 4) 22 (.assign (.const (.slice none 0 0))),
    O1 (some 5) 28 (.assign (ci 0))]⟩ false)
  (.seq
   (.region 1 ⟨[O1 (some 12) 24 (.load 24 (t 2)),
     O1 (some 13) 3 (.move (t 1)),
     O1 (some 14) 46 (.call ⟨(.value (.func 54)), #[(t 12), (t 13)], #[24, 3]⟩),
     O1 (some 11) 46 (.move (t 14)),
     O1 (some 15) 3 (.extract (t 11) 0),
     O1 (some 16) 28 (.extract (t 11) 1),
     O1 (some 6) 3 (.assign (t 15)),
     O1 (some 7) 28 (.assign (t 16))]⟩ false)
   (.seq
    (.seq
     (.region 2 ⟨[O1 (some 17) 28 (.move (t 7)),
       O1 (some 18) 4 (.binOp .neq 28 (t 17) (ci 0) 28)]⟩ false)
     (.cond (t 18)
      (.seq
       (.region 3 ⟨[O1 (some 19) 28 (.move (t 7)),
         O1 (some 4) 22 (.assign (.const (.slice none 0 0))),
         O1 (some 5) 28 (.assign (t 19))]⟩ false)
       .ret)
      .skip))
    (.seq
     (.region 4 ⟨[O1 (some 8) 0 (.alloc 22)]⟩ false)
     (.seq
      (.seq
       (.region 5 ⟨[O1 (some 20) 3 (.move (t 6)),
         O1 (some 21) 3 (.move (t 1)),
         O1 (some 22) 72 (.call ⟨(.value (.func 55)), #[(t 20), (t 21)], #[3, 3]⟩)]⟩ false)
       (.block 0
        q46_2))
      r46_3)))))
theorem fn46 : (ctx.fn.get 46).map slimF = some ⟨30, [.tmp 4, .tmp 5], b46⟩ := by kernel_rfl
theorem va46_0 (tm : Tm) (y24 : V) (d : List AD) (h : H) (Q : AX → St → Prop) : wpC Try.prog ctx true (slim a46_0) ⟨30, (Tb.set tm 24 y24), d, h⟩ (sealQ [4, 5, 24, 8, 10] Q) = ((∀ tm', getV tm' 4 = getV tm 4 → getV tm' 5 = getV tm 5 → getV tm' 24 = y24 → getV tm' 8 = getV tm 8 → getV tm' 10 = y24 → Q .normal ⟨30, tm', d, h⟩)) := by kernel_rfl
theorem vg46_1 (tm : Tm) (y8 : V) (y10 : Int) (d : List AD) (h : H) (Q : AX → St → Prop) : wpC Try.prog ctx true (slim g46_1) ⟨30, (Tb.set (Tb.set tm 8 y8) 10 (.int .i64 y10)), d, h⟩ (sealQ [4, 5, 24, 8, 10] Q) = (∃ (v0 : V), ald ctx 22 h y8 = some v0 ∧ ∃ v1 h2, abuildSlice ctx 22 1 [(0, (.int .i64 y10))] h = some (v1, h2) ∧ (True ∧ ∃ v3 h4, aappend ctx 22 h2 v0 v1 = some (v3, h4) ∧ ∃ h5, ast ctx 22 h4 y8 v3 = some h5 ∧ (∀ tm', getV tm' 4 = getV tm 4 → getV tm' 5 = getV tm 5 → getV tm' 24 = getV tm 24 → getV tm' 8 = y8 → getV tm' 10 = (.int .i64 y10) → Q .normal ⟨30, tm', d, h5⟩))) := by kernel_rfl
theorem vr46_3 (tm : Tm) (y8 : V) (d : List AD) (h : H) (Q : AX → St → Prop) : wpC Try.prog ctx false r46_3 ⟨30, (Tb.set tm 8 y8), d, h⟩ (sealQ [4, 5, 24, 8, 10] Q) = (∃ (v0 : V), ald ctx 22 h y8 = some v0 ∧ (∀ tm', getV tm' 4 = v0 → getV tm' 5 = (.int .i64 (0 : Int)) → getV tm' 24 = getV tm 24 → getV tm' 8 = y8 → getV tm' 10 = getV tm 10 → Q .ret ⟨30, tm', d, h⟩)) := by kernel_rfl

end Go.Proofs.Ytbkafllejpbimaa
