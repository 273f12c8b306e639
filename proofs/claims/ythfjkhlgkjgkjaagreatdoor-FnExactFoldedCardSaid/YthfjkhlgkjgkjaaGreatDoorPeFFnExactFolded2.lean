/- Functions,as pure functions; and that Go does just that. -/
import Derived.Test.YthfjkhlgkjgkjaaGreatDoorPeFFnExactFolded1
namespace Go.Proofs.YthfjkhlgkjgkjaaGreatDoor.Pe.FnExactFolded
open Go Go.RowKit
set_option linter.unusedVariables false
set_option linter.unusedSimpArgs false
set_option maxHeartbeats 40000000
set_option maxRecDepth 100000
def impl_within (N : Nat) (x1 : Int) (x2 : Int) (x3 : Int) : Option (Bool) :=
 (if (decide (x1 ≥ x2)) = true then
 some (decide (x1 ≤ x3))
 else
 some false)
instance i117 (N : Nat) (x1 : Int) (x2 : Int) (x3 : Int) : Sem Tryz.prog 30 (impl_within N x1 x2 x3) [VI x1,VI x2,VI x3] 0 [] (fun r => VB r) (fun r => []) := .st e e Tryz.call30 fun B r => .q e (.a e e (.Ek [] e e e) (.Ek [] e e e))
def impl_DiskOk_l1 (N : Nat) (x1 : Disk) : Nat → Int → Option ((Bool) ⊕ (Unit))
 | 0,_ => none
 | m + 1,x227 =>
 (if (decide (x227 < (x1.Files.length : Int))) = true then
 (at? x1.Files x227).bind fun x254 =>
 (impl_within N (x254.Name.size : Int) 1 12).bind fun y260 =>
 (if (!y260) = true then
 some (Sum.inl false)
 else
 (if (decide ((x254.Text.size : Int) > 20000)) = true then
 some (Sum.inl false)
 else
 (if (decide (x227 > 0)) = true then
 (at? x1.Files (w64 (x227 - 1))).bind fun x264 =>
 (if (!Op.bytesLess x264.Name.toList x254.Name.toList) = true then
 some (Sum.inl false)
 else
 impl_DiskOk_l1 N x1 m (w64 (x227 + 1)))
 else
 impl_DiskOk_l1 N x1 m (w64 (x227 + 1)))))
 else
 some (Sum.inr ()))
def impl_DiskOk (N : Nat) (x1 : Disk) : Option (Bool) :=
 joinP (fun (v224 : Unit) =>
 some (decide ((x1.Files.length : Int) ≤ 30))) fun j224 =>
 (impl_DiskOk_l1 N x1 N 0).bind (Sum.elim (fun v246 => some v246) (fun (v247 : Unit) => j224 ()))
instance i118 (N : Nat) (x1 : Disk) : Sem Tryz.prog 70 (impl_DiskOk N x1) [.agg [RO 141 (x1.Files.map encFile)]] 0 [] (fun r => VB r) (fun r => []) := .st e e Tryz.call70 fun B r => .j e (fun _ => [(1,.ptr 0 0)]) (fun _ => [(0,.box [RO 141 (x1.Files.map encFile)])]) (fun _ => .st e (Ev.lnF e) e (.L1 e (fun x227 => [(1,.ptr 0 0),(6,RO 141 (x1.Files.map encFile)),(7,VI (x1.Files.length : Int)),(8,VI x227)]) (fun x227 => [(0,.box [RO 141 (x1.Files.map encFile)])]) (.k [1,6,7,8] [1000]) fun _ x227 _ hk247 => .q e (.a e e (.q e (.B fun _ hx254 => .st e (Ev.iaF e e hx254) e (.q e (.c0 e i q fun _ _ => .a e e (.dn e (.Xr hk247 e e (.il (.e e (.Ek [] e e e))))) (.a e e (.dn e (.Xr hk247 e e (.il (.e e (.Ek [] e e e))))) (.a e e (.B fun _ hx264 => .st e (Ev.iaF e e hx264) e (.dn e (.a e e (.Xr hk247 e e (.il (.e e (.Ek [] e e e)))) (.R e (fun h => ⟨_,h,e,e⟩) (.k [1,6,7,8] [0]))))) (.dn e (.R e (fun h => ⟨_,h,e,e⟩) (.k [1,6,7,8] [0]))))))))) (.X hk247 e e (.ir (.n e (.J e (.k [1] [0])))))))) fun _ => .st e (Ev.lnF e) e (.Ek [] e e e)
def strings_Compare (N : Nat) (x1 : ByteArray) (x2 : ByteArray) : Option (Int) := some (Lib.compareBytes x1.data.toList x2.data.toList)
instance i119 (N : Nat) (x1 : ByteArray) (x2 : ByteArray) : Sem Tryz.prog 143 (strings_Compare N x1 x2) [VS x1,VS x2] 0 [] (fun r => VI r) (fun r => []) := ⟨fun r h => says_compare Tryz.call143 Go.Proofs.Tryz.strings_Compare h⟩
def impl_fileNo_1 (N : Nat) (x1 : File) (x2 : ByteArray) : Option (Int) :=
 (strings_Compare N x1.Name x2).bind fun y103 =>
 some y103
instance i120 (N : Nat) (x1 : File) (x2 : ByteArray) : Sem Tryz.prog 193 (impl_fileNo_1 N x1 x2) [.agg [VS x1.Name,VS x1.Text],VS x2] 0 [] (fun r => VI r) (fun r => []) := .st e e Tryz.call193 fun B r => .c0 e i q fun _ _ => .Ek [] e e e
def slices_BinarySearchFunc_string_l1 (N : Nat) (x1 : (List File)) (x2 : ByteArray) : Nat → Int → Int → Option (Int)
 | 0,_,_ => none
 | m + 1,x198,x199 =>
 (if (decide (x198 < x199)) = true then
 (intSh .shr .u64 (IntKind.wrap .u64 (w64 (x198 + x199))) 1).bind fun x218 =>
 (at? x1 (w64 (x218))).bind fun x221 =>
 (impl_fileNo_1 N x221 x2).bind fun y222 =>
 (if (decide (y222 < 0)) = true then
 slices_BinarySearchFunc_string_l1 N x1 x2 m (w64 ((w64 (x218)) + 1)) x199
 else
 slices_BinarySearchFunc_string_l1 N x1 x2 m x198 (w64 (x218)))
 else
 some x198)
def slices_BinarySearchFunc_string (N : Nat) (x1 : (List File)) (x2 : ByteArray) : Option (Int × Bool) :=
 joinP (fun (v194 : Int) =>
 (if (decide (v194 < (x1.length : Int))) = true then
 (at? x1 v194).bind fun x228 =>
 (impl_fileNo_1 N x228 x2).bind fun y229 =>
 some (v194,(y229 == 0))
 else
 some (v194,false))) fun j194 =>
 (slices_BinarySearchFunc_string_l1 N x1 x2 N 0 (x1.length : Int)).bind (fun v211 => j194 v211)
instance i121 (N : Nat) (x1 : (List File)) (x2 : ByteArray) : Sem Tryz.prog 192 (slices_BinarySearchFunc_string N x1 x2) [RO 141 (x1.map encFile),VS x2,.fn 193 []] 0 [] (fun r => .tup [VI r.1,VB r.2]) (fun r => []) := .st e e Tryz.call192 fun B r => .st e (Ev.lnF e) e (.j e (fun v194 => [(0,RO 141 (x1.map encFile)),(1,VS x2),(2,.fn 193 []),(8,VI (x1.length : Int)),(9,VI v194)]) (fun v194 => []) (fun _ => .L2 e (fun x198 x199 => [(0,RO 141 (x1.map encFile)),(1,VS x2),(2,.fn 193 []),(8,VI (x1.length : Int)),(9,VI x198),(10,VI x199)]) (fun x198 x199 => []) (.k [0,1,2,8,9,10] []) fun _ x198 x199 _ hk211 => .q e (.a e e (.B fun _ hx218 => .st e (.sh e e hx218) e (.B fun _ hx221 => .st e (Ev.iaF e e hx221) e (.B fun _ hy222 => .st e (Ev.callx [] [] 0 e (sy hy222) e e (.cons (.agg (.d2 .nil)) (.d1 .nil)) e (.inl e) e e) e (.a e e (.R e (fun h => ⟨_,_,h,e,e⟩) (.k [0,1,2,8,9,10] [])) (.R e (fun h => ⟨_,_,h,e,e⟩) (.k [0,1,2,8,9,10] [])))))) (.X hk211 e e (.n e (.J e (.k [0,1,2,8,9] [])))))) fun v194 => .q e (.a e e (.B fun _ hx228 => .st e (Ev.iaF e e hx228) e (.B fun _ hy229 => .st e (Ev.callx [] [] 0 e (sy hy229) e e (.cons (.agg (.d2 .nil)) (.d1 .nil)) e (.inl e) e e) e (.Ek [] e e e))) (.Ek [] e e e)))
def impl_fileNo (N : Nat) (x1 : Disk) (x2 : ByteArray) : Option (Int × Bool) :=
 (slices_BinarySearchFunc_string N x1.Files x2).bind fun y103 =>
 some (y103.1,y103.2)
instance i122 (N : Nat) (x1 : Disk) (x2 : ByteArray) : Sem Tryz.prog 125 (impl_fileNo N x1 x2) [.agg [RO 141 (x1.Files.map encFile)],VS x2] 0 [] (fun r => .tup [VI r.1,VB r.2]) (fun r => []) := .st e e Tryz.call125 fun B r => .c0 e i q fun _ _ => .Ek [] e e e
def impl_FileAt (N : Nat) (x1 : Disk) (x2 : ByteArray) : Option (ByteArray × Bool) :=
 (impl_DiskOk N x1).bind fun y118 =>
 (if (!y118) = true then
 some ((⟨#[]⟩ : ByteArray),false)
 else
 (impl_fileNo N x1 x2).bind fun y123 =>
 (if (!y123.2) = true then
 some ((⟨#[]⟩ : ByteArray),false)
 else
 (at? x1.Files y123.1).bind fun x127 =>
 some (x127.Text,true)))
instance i123 (N : Nat) (x1 : Disk) (x2 : ByteArray) : Sem Tryz.prog 71 (impl_FileAt N x1 x2) [.agg [RO 141 (x1.Files.map encFile)],VS x2] 0 [] (fun r => .tup [VS r.1,VB r.2]) (fun r => []) := .st e e Tryz.call71 fun B r => .q e (.c0 e i q fun _ _ => .a e e (.Ek [] e e e) (.c0 e i q fun _ _ => .q e (.a e e (.Ek [] e e e) (.B fun _ hx127 => .st e (Ev.iaF e e hx127) e (.Ek [] e e e)))))
def impl_SumMore_l2 (N : Nat) : Nat → Int → Int → Option (Int)
 | 0,_,_ => none
 | m + 1,x1114,x1117 =>
 (if (decide (x1117 < 8)) = true then
 joinP (fun (v1158 : Int) =>
 impl_SumMore_l2 N m v1158 (w64 (x1117 + 1))) fun j1158 =>
 (intD .rem .u32 x1114 2).bind fun x1162 =>
 (intD .quo .u32 x1114 2).bind fun x1166 =>
 (if (x1162 == 1) = true then
 (intD .xor .u32 x1166 3558460437).bind fun x1169 =>
 j1158 x1169
 else
 j1158 x1166)
 else
 some x1114)
def impl_SumMore_l1 (N : Nat) (x2 : ByteArray) : Nat → Int → Int → Option (Int)
 | 0,_,_ => none
 | m + 1,x903,x905 =>
 (if (decide (x905 < (x2.size : Int))) = true then
 joinP (fun (v1105 : Int) =>
 impl_SumMore_l1 N x2 m v1105 (w64 (x905 + 1))) fun j1105 =>
 (sat? x2 x905).bind fun x1112 =>
 (intD .xor .u32 x903 (IntKind.wrap .u32 (x1112))).bind fun x1113 =>
 (impl_SumMore_l2 N N x1113 0).bind (fun v1143 => j1105 v1143)
 else
 some x903)
def impl_SumMore (N : Nat) (x1 : Int) (x2 : ByteArray) : Option (Int) :=
 joinP (fun (v902 : Int) =>
 some v902) fun j902 =>
 (impl_SumMore_l1 N x2 N x1 0).bind (fun v1037 => j902 v1037)
instance i124 (N : Nat) (x1 : Int) (x2 : ByteArray) : Sem Tryz.prog 244 (impl_SumMore N x1 x2) [.c (.i .u32 x1),VS x2] 0 [] (fun r => .c (.i .u32 r)) (fun r => []) := .st e e Tryz.call244 fun B r => .j e (fun v902 => [(0,.c (.i .u32 v902))]) (fun v902 => []) (fun _ => .L2 e (fun x903 x905 => [(0,.c (.i .u32 x903)),(1,VS x2),(5,VI x905)]) (fun x903 x905 => []) (.k [0,1,5] []) fun _ x903 x905 _ hk1037 => .q e (.a e e (.j e (fun v1105 => [(0,.c (.i .u32 v1105)),(1,VS x2),(5,VI x905)]) (fun v1105 => []) (fun _ => .B fun _ hx1112 => .st e (Ev.ixS e e hx1112) e (.B fun _ hx1113 => .st e (.bin e e hx1113) e (.L2 e (fun x1114 x1117 => [(0,.c (.i .u32 x1114)),(1,VS x2),(5,VI x905),(6,VI x1117)]) (fun x1114 x1117 => []) (.k [0,1,5,6] []) fun _ x1114 x1117 _ hk1143 => .q e (.a e e (.j e (fun v1158 => [(0,.c (.i .u32 v1158)),(1,VS x2),(5,VI x905),(6,VI x1117)]) (fun v1158 => []) (fun _ => .B fun _ hx1162 => .st e (.bin e e hx1162) e (.B fun _ hx1166 => .st e (.bin e e hx1166) e (.a e e (.B fun _ hx1169 => .st e (.bin e e hx1169) e (.J e (.k [0,1,5,6] []))) (.J e (.k [0,1,5,6] []))))) fun v1158 => .R e (fun h => ⟨_,_,h,e,e⟩) (.k [0,1,5,6] [])) (.X hk1143 e e (.n e (.J e (.k [0,1,5] [])))))))) fun v1105 => .R e (fun h => ⟨_,_,h,e,e⟩) (.k [0,1,5] [])) (.X hk1037 e e (.n e (.J e (.k [0] [])))))) fun v902 => .Ek [] e e e
def impl_SumOf (N : Nat) (x1 : ByteArray) : Option (Int) :=
 (impl_SumMore N 4294967295 x1).bind fun y103 =>
 some y103
instance i125 (N : Nat) (x1 : ByteArray) : Sem Tryz.prog 208 (impl_SumOf N x1) [VS x1] 0 [] (fun r => .c (.i .u32 r)) (fun r => []) := .st e e Tryz.call208 fun B r => .c0 e i q fun _ _ => .Ek [] e e e
def impl_Sealed (N : Nat) (x1 : ByteArray) : Option (ByteArray × Bool) :=
 (if (decide ((x1.size : Int) > 20000)) = true then
 some ((⟨#[]⟩ : ByteArray),false)
 else
 (impl_SumOf N x1).bind fun y119 =>
 (intSh .shr .u32 y119 24).bind fun x124 =>
 (intSh .shr .u32 y119 16).bind fun x125 =>
 (intSh .shr .u32 y119 8).bind fun x126 =>
 (scat? x1 (strOf ([IntKind.wrap .u8 (x124),IntKind.wrap .u8 (x125),IntKind.wrap .u8 (x126),IntKind.wrap .u8 (y119)] : List Int))).bind fun x127 =>
 some (x127,true))
instance i126 (N : Nat) (x1 : ByteArray) : Sem Tryz.prog 194 (impl_Sealed N x1) [VS x1] 0 [] (fun r => .tup [VS r.1,VB r.2]) (fun r => []) := .st e e Tryz.call194 fun B r => .q e (.a e e (.Ek [] e e e) (.c0 e i q fun y119 _ => .B fun x124 hx124 => .st e (.sh e e hx124) e (.B fun x125 hx125 => .st e (.sh e e hx125) e (.B fun x126 hx126 => .st e (.sh e e hx126) e (.st e (Ev.bsW (ys := ([IntKind.wrap .u8 (x124),IntKind.wrap .u8 (x125),IntKind.wrap .u8 (x126),IntKind.wrap .u8 (y119)] : List Int)) (f := encU) e (.d4 .nil) e e e e e) e (.st e (.sbC (addsW (f := encU) e e e (fun _ => e))) e (.B fun _ hx127 => .st e (Ev.addS e e hx127) e (.Ek [] e e e))))))))
def impl_Unsealed (N : Nat) (x1 : ByteArray) : Option (ByteArray × Bool) :=
 (if (decide ((x1.size : Int) < 4)) = true then
 some ((⟨#[]⟩ : ByteArray),false)
 else
 (stake? x1 (w64 ((x1.size : Int) - 4))).bind fun x125 =>
 (impl_Sealed N x125).bind fun y136 =>
 (if (!y136.2) = true then
 some ((⟨#[]⟩ : ByteArray),false)
 else
 (if (!decide (y136.1 = x1)) = true then
 some ((⟨#[]⟩ : ByteArray),false)
 else
 some (x125,true))))
instance i127 (N : Nat) (x1 : ByteArray) : Sem Tryz.prog 126 (impl_Unsealed N x1) [VS x1] 0 [] (fun r => .tup [VS r.1,VB r.2]) (fun r => []) := .st e e Tryz.call126 fun B r => .q e (.a e e (.Ek [] e e e) (.B fun _ hx125 => .st e (Ev.ssH e e hx125) e (.q e (.c0 e i q fun _ _ => .q e (.a e e (.Ek [] e e e) (.a e e (.Ek [] e e e) (.Ek [] e e e)))))))
def impl_VarText_l1 (N : Nat) : Nat → Int → (List Int) → Option (Int × (List Int))
 | 0,_,_ => none
 | m + 1,x200,x201 =>
 (if (decide (x200 > 127)) = true then
 (intD .rem .i64 x200 128).bind fun x224 =>
 (cat? x201 ([IntKind.wrap .u8 (w64 (x224 + 128))] : List Int)).bind fun x225 =>
 (intD .quo .i64 x200 128).bind fun x227 =>
 impl_VarText_l1 N m x227 x225
 else
 some (x200,x201))
def impl_VarText (N : Nat) (x1 : Int) : Option (ByteArray × Bool) :=
 (impl_within N x1 0 1000000000).bind fun y169 =>
 (if (!y169) = true then
 some ((⟨#[]⟩ : ByteArray),false)
 else
 joinP (fun (v199 : Int × (List Int)) =>
 (cat? v199.2 ([IntKind.wrap .u8 (v199.1)] : List Int)).bind fun x229 =>
 some (strOf x229,true)) fun j199 =>
 (impl_VarText_l1 N N x1 ([] : (List Int))).bind (fun v214 => j199 (v214.1,v214.2)))
instance i128 (N : Nat) (x1 : Int) : Sem Tryz.prog 207 (impl_VarText N x1) [VI x1] 0 [] (fun r => .tup [VS r.1,VB r.2]) (fun r => []) := .st e e Tryz.call207 fun B r => .q e (.c0 e i q fun _ _ => .a e e (.Ek [] e e e) (.j e (fun v199 => [(0,VI v199.1),(4,.sl 0 5 0 v199.2.length)]) (fun v199 => [(0,.vec 5 (v199.2.map encU))]) (fun _ => .L2 e (fun x200 x201 => [(0,VI x200),(4,.sl 0 5 0 x201.length)]) (fun x200 x201 => [(0,.vec 5 (x201.map encU))]) (.n [0,4] [] [4] [] [10000000]) fun _ x200 x201 _ hk214 => .q e (.a e e (.B fun x224 hx224 => .st e (.bin e e hx224) e (.st e (Ev.bsW (ys := ([IntKind.wrap .u8 (w64 (x224 + 128))] : List Int)) (f := encU) e (.d1 .nil) e e e e e) e (.B fun _ hx225 => .st e (Ev.apW (f := encU) (ontoW e e e) (addsW e e e (fun _ => e)) e bt5 e hx225) e (.B fun _ hx227 => .st e (.bin e e hx227) e (.R e (fun h => ⟨_,_,h,e,e⟩) (.k [0,4] [21576])))))) (.X hk214 e e (.n e (.J e (.k [0,4] [0])))))) fun v199 => .st e (Ev.bsW (ys := ([IntKind.wrap .u8 (v199.1)] : List Int)) (f := encU) e (.d1 .nil) e e e e e) e (.B fun _ hx229 => .st e (Ev.apW (f := encU) (ontoW e e e) (addsW e e e (fun _ => e)) e bt5 e hx229) e (.st e (.sbC (addsW (f := encU) e e e (fun _ => e))) e (.Ek [] e e e)))))
def impl_ReadVar_l1 (N : Nat) (x1 : ByteArray) (x2 : Int) : Nat → Int → Int → Option ((Int × Int × Bool) ⊕ (Unit))
 | 0,_,_ => none
 | m + 1,x497,x498 =>
 (if (decide (x498 < 5)) = true then
 (if (decide ((w64 (x2 + x498)) < (x1.size : Int))) = true then
 (sat? x1 (w64 (x2 + x498))).bind fun x598 =>
 (intD .rem .i64 (w64 (x598)) 128).bind fun x605 =>
 (intSh .shl .i64 x605 (w64 (7 * x498))).bind fun x606 =>
 (if (decide ((w64 (x598)) < 128)) = true then
 (impl_VarText N (w64 (x497 + x606))).bind fun y618 =>
 (if (!y618.2) = true then
 some (Sum.inl (0,0,false))
 else
 (if ((y618.1.size : Int) != (w64 (x498 + 1))) = true then
 some (Sum.inl (0,0,false))
 else
 some (Sum.inl (w64 (x497 + x606),w64 ((w64 (x2 + x498)) + 1),true))))
 else
 impl_ReadVar_l1 N x1 x2 m (w64 (x497 + x606)) (w64 (x498 + 1)))
 else
 some (Sum.inr ()))
 else
 some (Sum.inr ()))
def impl_ReadVar (N : Nat) (x1 : ByteArray) (x2 : Int) : Option (Int × Int × Bool) :=
 (impl_within N x2 0 (x1.size : Int)).bind fun y365 =>
 (if (!y365) = true then
 some (0,0,false)
 else
 joinP (fun (v494 : Unit) =>
 some (0,0,false)) fun j494 =>
 (impl_ReadVar_l1 N x1 x2 N 0 0).bind (Sum.elim (fun v559 => some v559) (fun (v560 : Unit) => j494 ())))
instance i129 (N : Nat) (x1 : ByteArray) (x2 : Int) : Sem Tryz.prog 195 (impl_ReadVar N x1 x2) [VS x1,VI x2] 0 [] (fun r => .tup [VI r.1,VI r.2.1,VB r.2.2]) (fun r => []) := .st e e Tryz.call195 fun B r => .q e (.c0 e i q fun _ _ => .a e e (.Ek [] e e e) (.j e (fun _ => []) (fun _ => []) (fun _ => .L2 e (fun x497 x498 => [(0,VS x1),(1,VI x2),(7,VI x497),(8,VI x498)]) (fun x497 x498 => []) (.k [0,1,7,8] []) fun _ x497 x498 _ hk560 => .q e (.q e (.a e e (.a e e (.q e (.B fun _ hx598 => .st e (Ev.ixS e e hx598) e (.B fun _ hx605 => .st e (.bin e e hx605) e (.B fun _ hx606 => .st e (.sh e e hx606) e (.a e e (.q e (.c0 e i q fun _ _ => .q e (.a e e (.Xr hk560 e e (.il (.e e (.Ek [] e e e)))) (.a e e (.Xr hk560 e e (.il (.e e (.Ek [] e e e)))) (.Xr hk560 e e (.il (.e e (.Ek [] e e e)))))))) (.R e (fun h => ⟨_,_,h,e,e⟩) (.k [0,1,7,8] []))))))) (.X hk560 e e (.ir (.n e (.J e (.k [] [])))))) (.X hk560 e e (.ir (.n e (.J e (.k [] [])))))))) fun _ => .Ek [] e e e))
def reader_num (N : Nat) (x1 : Treader) : Option (Int × Treader) :=
 (impl_ReadVar N x1.s x1.at').bind fun y113 =>
 (if x1.bad = true then
 some (0,(Treader.mk x1.s x1.at' true))
 else
 (if (!y113.2.2) = true then
 some (0,(Treader.mk x1.s x1.at' true))
 else
 some (y113.1,(Treader.mk x1.s y113.2.1 x1.bad))))
instance i130 (N : Nat) (x1 : Treader) : Sem Tryz.prog 129 (reader_num N x1) [.ptr 0 0] 1 [(0,.box [VS x1.s,VI x1.at',VB x1.bad])] (fun r => VI r.1) (fun r => [(0,.box [VS r.2.s,VI r.2.at',VB r.2.bad])]) := .st e e Tryz.call129 fun B r => .c0 e i q fun _ _ => .dn e (.q e (.q e (.a e e (.Ek [0] e e e) (.a e e (.Ek [0] e e e) (.Ek [0] e e e)))))
def impl_ReadManifest_1 (N : Nat) (x1 : Manifest) (x2 : Treader) : Option (Manifest × Treader) :=
 (reader_num N x2).bind fun y106 =>
 (cat? x1.Segs ([y106.1] : List Int)).bind fun x107 =>
 some (({ x1 with Segs := x107 }),y106.2)
instance i131 (N : Nat) (x1 : Manifest) (x2 : Treader) : Sem Tryz.prog 128 (impl_ReadManifest_1 N x1 x2) [.ptr 0 0,.ptr 1 0] 5 [(0,.box [.sl 2 3 0 x1.Segs.length,VI x1.Next,VI x1.Base,VI x1.BaseTerm,.sl 3 3 0 x1.Conf.length]),(1,.box [.ptr 4 0]),(2,.vec 3 (x1.Segs.map encI)),(3,.vec 3 (x1.Conf.map encI)),(4,.box [VS x2.s,VI x2.at',VB x2.bad])] (fun r => .tup []) (fun r => [(0,.box [.sl 5 3 0 r.1.Segs.length,VI r.1.Next,VI r.1.Base,VI r.1.BaseTerm,.sl 3 3 0 x1.Conf.length]),(1,.box [.ptr 4 0]),(2,.gone),(3,.vec 3 (x1.Conf.map encI)),(4,.box [VS r.2.s,VI r.2.at',VB r.2.bad]),(5,.vec 3 (r.1.Segs.map encI))]) := .st e e Tryz.call128 fun B r => .f [4] [] 0 e i q fun y106 _ => .st e (Ev.bsW (ys := ([y106.1] : List Int)) (f := encI) e (.d1 .nil) e e e e e) e (.B fun _ hx107 => .st e (Ev.apW (f := encI) (ontoW e e e) (addsW e e e (fun _ => e)) e bt3 e hx107) e (.dn e (.Ek [0,1,2,3,4,1080] e e e)))
def reader_each_l1 (N : Nat) (y139 : Int × Treader) : Nat → Int → ByteArray → Int → Bool → Int → Int → Int → (List Int) → Option (ByteArray × Int × Bool × Int × Int × Int × (List Int))
 | 0,_,_,_,_,_,_,_,_ => none
 | m + 1,x141,x142,x143,x144,x145,x146,x147,x148 =>
 (if (decide (x141 < y139.1)) = true then
 (if (!x144) = true then
 (impl_ReadManifest_1 N (Manifest.mk x148 x145 x146 x147 ([] : (List Int))) (Treader.mk x142 x143 x144)).bind fun y171 =>
 reader_each_l1 N y139 m (w64 (x141 + 1)) y171.2.s y171.2.at' y171.2.bad y171.1.Next y171.1.Base y171.1.BaseTerm y171.1.Segs
 else
 some (x142,x143,x144,x145,x146,x147,x148))
 else
 some (x142,x143,x144,x145,x146,x147,x148))
def reader_each (N : Nat) (x1 : Treader) (x2 : Manifest) : Option (Treader × Manifest) :=
 (reader_num N x1).bind fun y139 =>
 (reader_each_l1 N y139 N 0 y139.2.s y139.2.at' y139.2.bad x2.Next x2.Base x2.BaseTerm ([] : (List Int))).bind (fun v160 => some ((Treader.mk v160.1 v160.2.1 v160.2.2.1),(Manifest.mk v160.2.2.2.2.2.2 v160.2.2.2.1 v160.2.2.2.2.1 v160.2.2.2.2.2.1 ([] : (List Int)))))
instance i132 (N : Nat) (x1 : Treader) (x2 : Manifest) : Sem Tryz.prog 127 (reader_each N x1 x2) [.ptr 0 0,.fn 128 [.ptr 1 0,.ptr 2 0]] 3 [(0,.box [VS x1.s,VI x1.at',VB x1.bad]),(1,.box [NI 3,VI x2.Next,VI x2.Base,VI x2.BaseTerm,NI 3]),(2,.box [.ptr 0 0])] (fun r => .tup []) (fun r => [(0,.box [VS r.1.s,VI r.1.at',VB r.1.bad]),(1,.box [.sl 3 3 0 r.2.Segs.length,VI r.2.Next,VI r.2.Base,VI r.2.BaseTerm,.sl 4 3 0 r.2.Conf.length]),(2,.box [.ptr 0 0]),(3,.vec 3 (r.2.Segs.map encI)),(4,.vec 3 (r.2.Conf.map encI))]) := .st e e Tryz.call127 fun B r => .f [0] [] 0 e i q fun y139 _ => .L8 e (fun x141 x142 x143 x144 x145 x146 x147 x148 => [(0,.ptr 0 0),(1,.fn 128 [.ptr 1 0,.ptr 2 0]),(4,VI y139.1),(5,VI x141)]) (fun x141 x142 x143 x144 x145 x146 x147 x148 => [(0,.box [VS x142,VI x143,VB x144]),(1,.box [.sl 3 3 0 x148.length,VI x145,VI x146,VI x147,.sl 4 3 0 (([] : (List Int)).length)]),(2,.box [.ptr 0 0]),(3,.vec 3 (x148.map encI)),(4,.vec 3 (([] : (List Int)).map encI))]) (.n [0,1,4,5] [0,1,2] [] [1] [0,1,2,20000000,20000001]) fun _ x141 x142 x143 x144 x145 x146 x147 x148 _ hk160 => .q e (.q e (.a e e (.a e e (.B fun _ hy171 => .st e (Ev.callx [1,2,3,4,0] [] 1 e (sy hy171) e e (.cons (.ptr e) (.cons (.ptr e) .nil)) e (.inl e) e e) e (.R e (fun h => ⟨_,_,_,_,_,_,_,_,h,e,e⟩) (.k [0,1,4,5] [0,1,2,17400,4]))) (.X hk160 e e (.n e (.Ek [0,1,2,3,4] e e e)))) (.X hk160 e e (.n e (.Ek [0,1,2,3,4] e e e)))))
def impl_ReadManifest_2 (N : Nat) (x1 : Manifest) (x2 : Treader) : Option (Manifest × Treader) :=
 (reader_num N x2).bind fun y106 =>
 (cat? x1.Conf ([y106.1] : List Int)).bind fun x107 =>
 some (({ x1 with Conf := x107 }),y106.2)
instance i133 (N : Nat) (x1 : Manifest) (x2 : Treader) : Sem Tryz.prog 130 (impl_ReadManifest_2 N x1 x2) [.ptr 0 0,.ptr 1 0] 5 [(0,.box [.sl 2 3 0 x1.Segs.length,VI x1.Next,VI x1.Base,VI x1.BaseTerm,.sl 3 3 0 x1.Conf.length]),(1,.box [.ptr 4 0]),(2,.vec 3 (x1.Segs.map encI)),(3,.vec 3 (x1.Conf.map encI)),(4,.box [VS x2.s,VI x2.at',VB x2.bad])] (fun r => .tup []) (fun r => [(0,.box [.sl 2 3 0 x1.Segs.length,VI r.1.Next,VI r.1.Base,VI r.1.BaseTerm,.sl 5 3 0 r.1.Conf.length]),(1,.box [.ptr 4 0]),(2,.vec 3 (x1.Segs.map encI)),(3,.gone),(4,.box [VS r.2.s,VI r.2.at',VB r.2.bad]),(5,.vec 3 (r.1.Conf.map encI))]) := .st e e Tryz.call130 fun B r => .f [4] [] 0 e i q fun y106 _ => .st e (Ev.bsW (ys := ([y106.1] : List Int)) (f := encI) e (.d1 .nil) e e e e e) e (.B fun _ hx107 => .st e (Ev.apW (f := encI) (ontoW e e e) (addsW e e e (fun _ => e)) e bt3 e hx107) e (.dn e (.Ek [0,1,2,3,4,1080] e e e)))
def reader_each_i1_l1 (N : Nat) (x2 : Manifest) (y159 : Int × Treader) : Nat → Int → ByteArray → Int → Bool → Int → Int → Int → (List Int) → Option (ByteArray × Int × Bool × Int × Int × Int × (List Int))
 | 0,_,_,_,_,_,_,_,_ => none
 | m + 1,x181,x182,x183,x184,x185,x186,x187,x189 =>
 (if (decide (x181 < y159.1)) = true then
 (if (!x184) = true then
 (impl_ReadManifest_2 N (Manifest.mk x2.Segs x185 x186 x187 x189) (Treader.mk x182 x183 x184)).bind fun y211 =>
 reader_each_i1_l1 N x2 y159 m (w64 (x181 + 1)) y211.2.s y211.2.at' y211.2.bad y211.1.Next y211.1.Base y211.1.BaseTerm y211.1.Conf
 else
 some (x182,x183,x184,x185,x186,x187,x189))
 else
 some (x182,x183,x184,x185,x186,x187,x189))
def reader_each_i1 (N : Nat) (x1 : Treader) (x2 : Manifest) : Option (Treader × Manifest) :=
 (reader_num N x1).bind fun y159 =>
 (reader_each_i1_l1 N x2 y159 N 0 y159.2.s y159.2.at' y159.2.bad x2.Next x2.Base x2.BaseTerm x2.Conf).bind (fun v200 => some ((Treader.mk v200.1 v200.2.1 v200.2.2.1),(Manifest.mk x2.Segs v200.2.2.2.1 v200.2.2.2.2.1 v200.2.2.2.2.2.1 v200.2.2.2.2.2.2)))
instance i134 (N : Nat) (x1 : Treader) (x2 : Manifest) : Sem Tryz.prog 127 (reader_each_i1 N x1 x2) [.ptr 0 0,.fn 130 [.ptr 1 0,.ptr 2 0]] 5 [(0,.box [VS x1.s,VI x1.at',VB x1.bad]),(1,.box [.sl 3 3 0 x2.Segs.length,VI x2.Next,VI x2.Base,VI x2.BaseTerm,.sl 4 3 0 x2.Conf.length]),(2,.box [.ptr 0 0]),(3,.vec 3 (x2.Segs.map encI)),(4,.vec 3 (x2.Conf.map encI))] (fun r => .tup []) (fun r => [(0,.box [VS r.1.s,VI r.1.at',VB r.1.bad]),(1,.box [.sl 5 3 0 r.2.Segs.length,VI r.2.Next,VI r.2.Base,VI r.2.BaseTerm,.sl 6 3 0 r.2.Conf.length]),(2,.box [.ptr 0 0]),(3,.gone),(4,.gone),(5,.vec 3 (r.2.Segs.map encI)),(6,.vec 3 (r.2.Conf.map encI))]) := .st e e Tryz.call127 fun B r => .f [0] [] 0 e i q fun y159 _ => .L8 e (fun x181 x182 x183 x184 x185 x186 x187 x189 => [(0,.ptr 0 0),(1,.fn 130 [.ptr 1 0,.ptr 2 0]),(4,VI y159.1),(5,VI x181)]) (fun x181 x182 x183 x184 x185 x186 x187 x189 => [(0,.box [VS x182,VI x183,VB x184]),(1,.box [.sl 5 3 0 x2.Segs.length,VI x185,VI x186,VI x187,.sl 6 3 0 x189.length]),(2,.box [.ptr 0 0]),(3,.gone),(4,.gone),(5,.vec 3 (x2.Segs.map encI)),(6,.vec 3 (x189.map encI))]) (.mv [0,1,4,5] [0,1,2,3,4] [3,4] [0,1,2,3,4,30000003,30000004]) fun _ x181 x182 x183 x184 x185 x186 x187 x189 _ hk200 => .q e (.q e (.a e e (.a e e (.B fun _ hy211 => .st e (Ev.callx [1,2,5,6,0] [] 1 e (sy hy211) e e (.cons (.ptr e) (.cons (.ptr e) .nil)) e (.inl e) e e) e (.R e (fun h => ⟨_,_,_,_,_,_,_,_,h,e,e⟩) (.k [0,1,4,5] [0,1,2,3,4,5,17400]))) (.X hk200 e e (.n e (.Ek [0,1,2,3,4,5,6] e e e)))) (.X hk200 e e (.n e (.Ek [0,1,2,3,4,5,6] e e e)))))
def reader_done (N : Nat) (x1 : Treader) : Option (Bool) :=
 (if (!x1.bad) = true then
 some (x1.at' == (x1.s.size : Int))
 else
 some false)
instance i135 (N : Nat) (x1 : Treader) : Sem Tryz.prog 131 (reader_done N x1) [.ptr 0 0] 1 [(0,.box [VS x1.s,VI x1.at',VB x1.bad])] (fun r => VB r) (fun r => [(0,.box [VS x1.s,VI x1.at',VB x1.bad])]) := .st e e Tryz.call131 fun B r => .q e (.a e e (.dn e (.Ek [0] e e e)) (.dn e (.Ek [0] e e e)))
def impl_ConfOk_l1 (N : Nat) (x1 : (List Int)) : Nat → Int → Option ((Bool) ⊕ (Unit))
 | 0,_ => none
 | m + 1,x218 =>
 (if (decide (x218 < (x1.length : Int))) = true then
 (at? x1 x218).bind fun x242 =>
 (impl_within N x242 1 4).bind fun y247 =>
 (if (!y247) = true then
 some (Sum.inl false)
 else
 (if (decide (x218 > 0)) = true then
 (at? x1 (w64 (x218 - 1))).bind fun x250 =>
 (if (decide (x250 ≥ x242)) = true then
 some (Sum.inl false)
 else
 impl_ConfOk_l1 N x1 m (w64 (x218 + 1)))
 else
 impl_ConfOk_l1 N x1 m (w64 (x218 + 1))))
 else
 some (Sum.inr ()))
def impl_ConfOk_l1_r (N : Nat) (x1 : (List Int)) : (List Int) → Int → Option ((Bool) ⊕ (Unit))
 | [],x218 =>
 some (Sum.inr ())
 | hd :: tl,x218 =>
 (some hd).bind fun x242 =>
 (impl_within N x242 1 4).bind fun y247 =>
 (if (!y247) = true then
 some (Sum.inl false)
 else
 (if (decide (x218 > 0)) = true then
 (at? x1 (w64 (x218 - 1))).bind fun x250 =>
 (if (decide (x250 ≥ x242)) = true then
 some (Sum.inl false)
 else
 impl_ConfOk_l1_r N x1 tl (w64 (x218 + 1)))
 else
 impl_ConfOk_l1_r N x1 tl (w64 (x218 + 1))))
theorem impl_ConfOk_l1_rng (N : Nat) (x1 : (List Int)) (hx : x1.length ≤ 1099511627776) : ∀ (d k m : Nat),x1.length = k + d → d < m → impl_ConfOk_l1 N x1 m (k : Int) = impl_ConfOk_l1_r N x1 (x1.drop k) (k : Int) := by
 intro d
 induction d with
 | zero =>
  intro k m hd hm
  obtain ⟨m,rfl⟩ : ∃ q,m = q + 1 := ⟨m - 1,by omega⟩
  rw [impl_ConfOk_l1,if_neg (by simp; omega),List.drop_eq_nil_of_le (by omega),impl_ConfOk_l1_r]
 | succ d ih =>
  intro k m hd hm
  obtain ⟨m,rfl⟩ : ∃ q,m = q + 1 := ⟨m - 1,by omega⟩
  have hk : k < x1.length := by omega
  rw [impl_ConfOk_l1,if_pos (by simp; omega),List.drop_eq_getElem_cons hk,impl_ConfOk_l1_r]
  have h1 := at_lt hk
  have h2 := w64_succ (k := k) (by omega)
  have h3 := ih (k + 1) m
  simp only [h1,h2,h3 (by omega) (by omega)]
theorem impl_ConfOk_l1_eq {N : Nat} (x1 : (List Int)) (hx : x1.length ≤ 1099511627776) (hN : x1.length < N) : impl_ConfOk_l1 N x1 N 0 = impl_ConfOk_l1_r N x1 x1 0 := impl_ConfOk_l1_rng N x1 hx x1.length 0 N (by omega) hN
def impl_ConfOk (N : Nat) (x1 : (List Int)) : Option (Bool) :=
 joinP (fun (v214 : Unit) =>
 (impl_within N (x1.length : Int) 1 4).bind fun y253 =>
 some y253) fun j214 =>
 (impl_ConfOk_l1 N x1 N 0).bind (Sum.elim (fun v234 => some v234) (fun (v235 : Unit) => j214 ()))
instance i136 (N : Nat) (x1 : (List Int)) : Sem Tryz.prog 196 (impl_ConfOk N x1) [RO 3 (x1.map encI)] 0 [] (fun r => VB r) (fun r => []) := .st e e Tryz.call196 fun B r => .j e (fun _ => [(0,RO 3 (x1.map encI))]) (fun _ => []) (fun _ => .st e (Ev.lnF e) e (.L1 e (fun x218 => [(0,RO 3 (x1.map encI)),(5,RO 3 (x1.map encI)),(6,VI (x1.length : Int)),(7,VI x218)]) (fun x218 => []) (.k [0,5,6,7] []) fun _ x218 _ hk235 => .q e (.a e e (.q e (.B fun _ hx242 => .st e (Ev.iaF e e hx242) e (.q e (.c0 e i q fun _ _ => .a e e (.Xr hk235 e e (.il (.e e (.Ek [] e e e)))) (.a e e (.B fun _ hx250 => .st e (Ev.iaF e e hx250) e (.a e e (.Xr hk235 e e (.il (.e e (.Ek [] e e e)))) (.R e (fun h => ⟨_,h,e,e⟩) (.k [0,5,6,7] [])))) (.R e (fun h => ⟨_,h,e,e⟩) (.k [0,5,6,7] []))))))) (.X hk235 e e (.ir (.n e (.J e (.k [0] [])))))))) fun _ => .st e (Ev.lnF e) e (.c0 e i q fun _ _ => .Ek [] e e e)
def impl_ManifestOk_l1 (N : Nat) (x1 : Manifest) : Nat → Int → Option ((Bool) ⊕ (Unit))
 | 0,_ => none
 | m + 1,x255 =>
 (if (decide (x255 < (x1.Segs.length : Int))) = true then
 (at? x1.Segs x255).bind fun x286 =>
 (impl_within N x286 0 999).bind fun y292 =>
 (if (!y292) = true then
 some (Sum.inl false)
 else
 (if (decide (x286 ≥ x1.Next)) = true then
 some (Sum.inl false)
 else
 (if (decide (x255 > 0)) = true then
 (at? x1.Segs (w64 (x255 - 1))).bind fun x296 =>
 (if (decide (x296 ≥ x286)) = true then
 some (Sum.inl false)
 else
 impl_ManifestOk_l1 N x1 m (w64 (x255 + 1)))
 else
 impl_ManifestOk_l1 N x1 m (w64 (x255 + 1)))))
 else
 some (Sum.inr ()))
def impl_ManifestOk (N : Nat) (x1 : Manifest) : Option (Bool) :=
 joinP (fun (v252 : Unit) =>
 (impl_within N (x1.Segs.length : Int) 1 8).bind fun y306 =>
 (if y306 = true then
 (if (decide (x1.Next ≤ 1000)) = true then
 (impl_within N x1.Base 0 100000).bind fun y309 =>
 (if y309 = true then
 (impl_within N x1.BaseTerm 0 100000).bind fun y311 =>
 (if y311 = true then
 (impl_ConfOk N x1.Conf).bind fun y313 =>
 some y313
 else
 some false)
 else
 some false)
 else
 some false)
 else
 some false)) fun j252 =>
 (impl_ManifestOk_l1 N x1 N 0).bind (Sum.elim (fun v278 => some v278) (fun (v279 : Unit) => j252 ()))
instance i137 (N : Nat) (x1 : Manifest) : Sem Tryz.prog 132 (impl_ManifestOk N x1) [.agg [RO 3 (x1.Segs.map encI),VI x1.Next,VI x1.Base,VI x1.BaseTerm,RO 3 (x1.Conf.map encI)]] 0 [] (fun r => VB r) (fun r => []) := .st e e Tryz.call132 fun B r => .j e (fun _ => [(1,.ptr 0 0)]) (fun _ => [(0,.box [RO 3 (x1.Segs.map encI),VI x1.Next,VI x1.Base,VI x1.BaseTerm,RO 3 (x1.Conf.map encI)])]) (fun _ => .st e (Ev.lnF e) e (.L1 e (fun x255 => [(1,.ptr 0 0),(6,RO 3 (x1.Segs.map encI)),(7,VI (x1.Segs.length : Int)),(8,VI x255)]) (fun x255 => [(0,.box [RO 3 (x1.Segs.map encI),VI x1.Next,VI x1.Base,VI x1.BaseTerm,RO 3 (x1.Conf.map encI)])]) (.k [1,6,7,8] [1000]) fun _ x255 _ hk279 => .q e (.a e e (.q e (.B fun _ hx286 => .st e (Ev.iaF e e hx286) e (.q e (.c0 e i q fun _ _ => .a e e (.Xr hk279 e e (.il (.e e (.Ek [] e e e)))) (.a e e (.Xr hk279 e e (.il (.e e (.Ek [] e e e)))) (.a e e (.B fun _ hx296 => .st e (Ev.iaF e e hx296) e (.a e e (.Xr hk279 e e (.il (.e e (.Ek [] e e e)))) (.R e (fun h => ⟨_,h,e,e⟩) (.k [1,6,7,8] [0])))) (.R e (fun h => ⟨_,h,e,e⟩) (.k [1,6,7,8] [0])))))))) (.X hk279 e e (.ir (.n e (.J e (.k [1] [0])))))))) fun _ => .q e (.st e (Ev.lnF e) e (.c0 e i q fun _ _ => .a e e (.a e e (.c0 e i q fun _ _ => .a e e (.c0 e i q fun _ _ => .a e e (.c0 e i q fun _ _ => .Ek [] e e e) (.Ek [] e e e)) (.Ek [] e e e)) (.Ek [] e e e)) (.Ek [] e e e)))
def impl_ReadManifest (N : Nat) (x1 : ByteArray) : Option (Manifest × Bool) :=
 (impl_Unsealed N x1).bind fun y143 =>
 (if (!y143.2) = true then
 some ((Manifest.mk ([]) 0 0 0 ([])),false)
 else
 (reader_each N (Treader.mk y143.1 0 false) (Manifest.mk ([]) 0 0 0 ([]))).bind fun y149 =>
 (reader_num N y149.1).bind fun y153 =>
 (reader_num N y153.2).bind fun y157 =>
 (reader_num N y157.2).bind fun y161 =>
 (reader_each_i1 N y161.2 (Manifest.mk y149.2.Segs y153.1 y157.1 y161.1 y149.2.Conf)).bind fun y165 =>
 (reader_done N y165.1).bind fun y176 =>
 (if (!y176) = true then
 some ((Manifest.mk ([]) 0 0 0 ([])),false)
 else
 (impl_ManifestOk N y165.2).bind fun y178 =>
 (if (!y178) = true then
 some ((Manifest.mk ([]) 0 0 0 ([])),false)
 else
 some (y165.2,true))))
instance i138 (N : Nat) (x1 : ByteArray) : Sem Tryz.prog 72 (impl_ReadManifest N x1) [VS x1] 0 [] (fun r => .tup [.agg [.sl 0 3 0 r.1.Segs.length,VI r.1.Next,VI r.1.Base,VI r.1.BaseTerm,.sl 1 3 0 r.1.Conf.length],VB r.2]) (fun r => [(0,.vec 3 (r.1.Segs.map encI)),(1,.vec 3 (r.1.Conf.map encI))]) := .st e e Tryz.call72 fun B r => .c0 e i q fun _ _ => .q e (.a e e (.E e e (.n [0,1] [] [0] [] [10000000,10000001])) (.f [21512,17384,21528] [] 2 e i q fun _ _ => .f [21512] [] 0 e i q fun _ _ => .f [21512] [] 0 e i q fun _ _ => .f [21512] [] 0 e i q fun _ _ => .f [21512,17384,21528,25608,25609] [] 2 e i q fun _ _ => .q e (.q e (.f [21512] [] 0 e i q fun _ _ => .a e e (.E e e (.n [0,1] [] [0] [] [10000000,10000001])) (.f (hp := (.cons (.agg (.cons (.borrow e (by decide) (lendW (fun _ => e) _ e)) (.d2 (.d1 (.cons (.borrow e (by decide) (lendW (fun _ => e) _ e)) .nil))))) .nil)) (hcase := fun _ => (.inr ⟨rfl,ownL_root trivial⟩)) [] [41992,41993] 0 e i q fun _ _ => .a e e (.E e e (.n [0,1] [] [0] [] [10000000,10000001])) (.Ek [41992,41993] e e e))))))
def strconv_Itoa (N : Nat) (x1 : Int) : Option (ByteArray) := itoa? x1
instance i139 (N : Nat) (x1 : Int) : Sem Tryz.prog 197 (strconv_Itoa N x1) [VI x1] 0 [] (fun r => VS r) (fun r => []) := ⟨fun r h => says_itoa Tryz.call197 Go.Proofs.Tryz.strconv_Itoa (g := 1) (by kernel_rfl) (.head _) h⟩
def impl_Decimal (N : Nat) (x1 : Int) : Option (ByteArray) :=
 (strconv_Itoa N x1).bind fun y103 =>
 some y103
instance i140 (N : Nat) (x1 : Int) : Sem Tryz.prog 133 (impl_Decimal N x1) [VI x1] 0 [] (fun r => VS r) (fun r => []) := .st e e Tryz.call133 fun B r => .c0 e i q fun _ _ => .Ek [] e e e
def impl_SegName (N : Nat) (x1 : Int) : Option (ByteArray) :=
 (impl_within N x1 0 999).bind fun y114 =>
 (if (!y114) = true then
 some (⟨#[]⟩ : ByteArray)
 else
 (impl_Decimal N x1).bind fun y118 =>
 (scat? (⟨#[103]⟩ : ByteArray) y118).bind fun x119 =>
 some x119)
instance i141 (N : Nat) (x1 : Int) : Sem Tryz.prog 73 (impl_SegName N x1) [VI x1] 0 [] (fun r => VS r) (fun r => []) := .st e e Tryz.call73 fun B r => .q e (.c0 e i q fun _ _ => .a e e (.Ek [] e e e) (.c0 e i q fun _ _ => .B fun _ hx119 => .st e (Ev.addS e e hx119) e (.Ek [] e e e)))
def internal_stringslite_HasPrefix (N : Nat) (x1 : ByteArray) (x2 : ByteArray) : Option (Bool) :=
 (if (decide ((x1.size : Int) ≥ (x2.size : Int))) = true then
 (stake? x1 (x2.size : Int)).bind fun x107 =>
 some (decide (x107 = x2))
 else
 some false)
instance i142 (N : Nat) (x1 : ByteArray) (x2 : ByteArray) : Sem Tryz.prog 262 (internal_stringslite_HasPrefix N x1 x2) [VS x1,VS x2] 0 [] (fun r => VB r) (fun r => []) := .st e e Tryz.call262 fun B r => .q e (.a e e (.B fun _ hx107 => .st e (Ev.ssH e e hx107) e (.Ek [] e e e)) (.Ek [] e e e))
def internal_stringslite_CutPrefix (N : Nat) (x1 : ByteArray) (x2 : ByteArray) : Option (ByteArray × Bool) :=
 (internal_stringslite_HasPrefix N x1 x2).bind fun y112 =>
 (if (!y112) = true then
 some (x1,false)
 else
 (sdrop? x1 (x2.size : Int)).bind fun x115 =>
 some (x115,true))
instance i143 (N : Nat) (x1 : ByteArray) (x2 : ByteArray) : Sem Tryz.prog 238 (internal_stringslite_CutPrefix N x1 x2) [VS x1,VS x2] 0 [] (fun r => .tup [VS r.1,VB r.2]) (fun r => []) := .st e e Tryz.call238 fun B r => .q e (.c0 e i q fun _ _ => .a e e (.Ek [] e e e) (.B fun _ hx115 => .st e (Ev.ssL e e hx115) e (.Ek [] e e e)))
def strings_CutPrefix (N : Nat) (x1 : ByteArray) (x2 : ByteArray) : Option (ByteArray × Bool) :=
 (internal_stringslite_CutPrefix N x1 x2).bind fun y103 =>
 some (y103.1,y103.2)
instance i144 (N : Nat) (x1 : ByteArray) (x2 : ByteArray) : Sem Tryz.prog 198 (strings_CutPrefix N x1 x2) [VS x1,VS x2] 0 [] (fun r => .tup [VS r.1,VB r.2]) (fun r => []) := .st e e Tryz.call198 fun B r => .c0 e i q fun _ _ => .Ek [] e e e
def impl_ReadDecimal (N : Nat) (x1 : ByteArray) : Option (Int × Bool) := rdec? x1
instance i145 (N : Nat) (x1 : ByteArray) : Sem Tryz.prog 199 (impl_ReadDecimal N x1) [VS x1] 0 [] (fun r => .tup [VI r.1,VB r.2]) (fun r => []) := ⟨fun r h => says_rdec Tryz.call199 Pe.ins199 (g := 1) (by kernel_rfl) (.head _) (g1 := 2) (by kernel_rfl) (.tail _ (.head _)) (g2 := 3) (by kernel_rfl) (.tail _ (.tail _ (.head _))) h⟩
def impl_isSegName (N : Nat) (x1 : ByteArray) : Option (Bool) :=
 (strings_CutPrefix N x1 (⟨#[103]⟩ : ByteArray)).bind fun y117 =>
 (impl_ReadDecimal N y117.1).bind fun y121 =>
 (if y117.2 = true then
 (if y121.2 = true then
 (impl_SegName N y121.1).bind fun y127 =>
 some (decide (y127 = x1))
 else
 some false)
 else
 some false)
instance i146 (N : Nat) (x1 : ByteArray) : Sem Tryz.prog 134 (impl_isSegName N x1) [VS x1] 0 [] (fun r => VB r) (fun r => []) := .st e e Tryz.call134 fun B r => .c0 e i q fun _ _ => .c0 e i q fun _ _ => .q e (.a e e (.a e e (.c0 e i q fun _ _ => .Ek [] e e e) (.Ek [] e e e)) (.Ek [] e e e))
def impl_cleaning_1 (N : Nat) (x1 : Int) (x2 : File) : Option (Bool) :=
 (impl_SegName N x1).bind fun y103 =>
 some (decide (y103 = x2.Name))
instance i147 (N : Nat) (x1 : Int) (x2 : File) : Sem Tryz.prog 136 (impl_cleaning_1 N x1 x2) [VI x1,.ptr 0 0] 1 [(0,.box [VS x2.Name,VS x2.Text])] (fun r => VB r) (fun r => [(0,.box [VS x2.Name,VS x2.Text])]) := .st e e Tryz.call136 fun B r => .c0 e i q fun _ _ => .dn e (.Ek [0] e e e)
def slices_IndexFunc_int_l1 (N : Nat) (x1 : (List Int)) (x2 : File) : Nat → Int → Option ((Int) ⊕ (Unit))
 | 0,_ => none
 | m + 1,x170 =>
 (if (decide (x170 < (x1.length : Int))) = true then
 (at? x1 x170).bind fun x187 =>
 (impl_cleaning_1 N x187 x2).bind fun y188 =>
 (if y188 = true then
 some (Sum.inl x170)
 else
 slices_IndexFunc_int_l1 N x1 x2 m (w64 (x170 + 1)))
 else
 some (Sum.inr ()))
def slices_IndexFunc_int (N : Nat) (x1 : (List Int)) (x2 : File) : Option (Int) :=
 joinP (fun (v167 : Unit) =>
 some (-1 : Int)) fun j167 =>
 (slices_IndexFunc_int_l1 N x1 x2 N 0).bind (Sum.elim (fun v180 => some v180) (fun (v181 : Unit) => j167 ()))
instance i148 (N : Nat) (x1 : (List Int)) (x2 : File) : Sem Tryz.prog 200 (slices_IndexFunc_int N x1 x2) [RO 3 (x1.map encI),.fn 136 [.ptr 0 0]] 1 [(0,.box [VS x2.Name,VS x2.Text])] (fun r => VI r) (fun r => [(0,.box [VS x2.Name,VS x2.Text])]) := .st e e Tryz.call200 fun B r => .j e (fun _ => []) (fun _ => [(0,.box [VS x2.Name,VS x2.Text])]) (fun _ => .st e (Ev.lnF e) e (.L1 e (fun x170 => [(0,RO 3 (x1.map encI)),(1,.fn 136 [.ptr 0 0]),(7,VI (x1.length : Int)),(8,VI x170)]) (fun x170 => [(0,.box [VS x2.Name,VS x2.Text])]) (.k [0,1,7,8] [0]) fun _ x170 _ hk181 => .q e (.a e e (.q e (.B fun _ hx187 => .st e (Ev.iaF e e hx187) e (.B fun _ hy188 => .st e (Ev.callx [0] [] 0 e (sy hy188) e e (.d1 (.cons (.ptr e) .nil)) e (.inl e) e e) e (.a e e (.Xr hk181 e e (.il (.e e (.Ek [0] e e e)))) (.R e (fun h => ⟨_,h,e,e⟩) (.k [0,1,7,8] [0])))))) (.X hk181 e e (.ir (.n e (.J e (.k [] [0])))))))) fun _ => .Ek [0] e e e
def slices_ContainsFunc_int (N : Nat) (x1 : (List Int)) (x2 : File) : Option (Bool) :=
 (slices_IndexFunc_int N x1 x2).bind fun y103 =>
 some (decide (y103 ≥ 0))
instance i149 (N : Nat) (x1 : (List Int)) (x2 : File) : Sem Tryz.prog 135 (slices_ContainsFunc_int N x1 x2) [RO 3 (x1.map encI),.fn 136 [.ptr 0 0]] 1 [(0,.box [VS x2.Name,VS x2.Text])] (fun r => VB r) (fun r => [(0,.box [VS x2.Name,VS x2.Text])]) := .st e e Tryz.call135 fun B r => .f [0] [] 0 e i q fun _ _ => .Ek [0] e e e
def impl_cleaning_l1 (N : Nat) (x1 : Disk) (x2 : Manifest) : Nat → Int → (List Raw) → Option ((List Raw))
 | 0,_,_ => none
 | m + 1,x257,x263 =>
 (if (decide (x257 < (x1.Files.length : Int))) = true then
 (at? x1.Files x257).bind fun x286 =>
 (impl_isSegName N x286.Name).bind fun y290 =>
 (if y290 = true then
 (slices_ContainsFunc_int N x2.Segs x286).bind fun y292 =>
 (if (!y292) = true then
 (cat? x263 ([(Raw.mk 4 x286.Name (⟨#[]⟩ : ByteArray) (⟨#[]⟩ : ByteArray))] : List Raw)).bind fun x295 =>
 impl_cleaning_l1 N x1 x2 m (w64 (x257 + 1)) x295
 else
 impl_cleaning_l1 N x1 x2 m (w64 (x257 + 1)) x263)
 else
 impl_cleaning_l1 N x1 x2 m (w64 (x257 + 1)) x263)
 else
 some x263)
def impl_cleaning (N : Nat) (x1 : Disk) (x2 : Manifest) : Option ((List Raw)) :=
 joinP (fun (v205 : (List Raw)) =>
 joinP (fun (v254 : (List Raw)) =>
 some v254) fun j254 =>
 (impl_cleaning_l1 N x1 x2 N 0 v205).bind (fun v279 => j254 v279)) fun j205 =>
 (impl_FileAt N x1 (⟨#[109,43]⟩ : ByteArray)).bind fun y209 =>
 (if y209.2 = true then
 (cat? ([] : List Raw) ([(Raw.mk 4 (⟨#[109,43]⟩ : ByteArray) (⟨#[]⟩ : ByteArray) (⟨#[]⟩ : ByteArray))] : List Raw)).bind fun x212 =>
 j205 x212
 else
 j205 ([] : (List Raw)))
instance i150 (N : Nat) (x1 : Disk) (x2 : Manifest) : Sem Tryz.prog 74 (impl_cleaning N x1 x2) [.agg [RO 141 (x1.Files.map encFile)],.agg [RO 3 (x2.Segs.map encI),VI x2.Next,VI x2.Base,VI x2.BaseTerm,RO 3 (x2.Conf.map encI)]] 0 [] (fun r => .sl 0 138 0 r.length) (fun r => [(0,.vec 138 (r.map encRaw))]) := .st e e Tryz.call74 fun B r => .j e (fun v205 => [(2,.ptr 0 0),(3,.ptr 1 0),(5,.sl 2 138 0 v205.length)]) (fun v205 => [(0,.box [RO 141 (x1.Files.map encFile)]),(1,.box [RO 3 (x2.Segs.map encI),VI x2.Next,VI x2.Base,VI x2.BaseTerm,RO 3 (x2.Conf.map encI)]),(2,.vec 138 (v205.map encRaw))]) (fun _ => .c0 e i q fun _ _ => .a e e (.st e (Ev.bsW (ys := ([(Raw.mk 4 (⟨#[109,43]⟩ : ByteArray) (⟨#[]⟩ : ByteArray) (⟨#[]⟩ : ByteArray))] : List Raw)) (f := encRaw) e (.d4 .nil) e e e e e) e (.B fun _ hx212 => .st e (Ev.apW (f := encRaw) (ontoN (f := encRaw) e) (addsW e e e (fun _ => e)) e bt138 e hx212) e (.J e (.k [2,3,5] [1000,1016,17432])))) (.J e (.n [2,3,5] [1000,1016] [5] [] [1000,1016,10000000]))) fun v205 => .j e (fun v254 => [(5,.sl 0 138 0 v254.length)]) (fun v254 => [(0,.vec 138 (v254.map encRaw))]) (fun _ => .st e (Ev.lnF e) e (.L2 e (fun x257 x263 => [(3,.ptr 0 0),(5,.sl 1 138 0 x263.length),(21,RO 141 (x1.Files.map encFile)),(22,VI (x1.Files.length : Int)),(23,VI x257)]) (fun x257 x263 => [(0,.box [RO 3 (x2.Segs.map encI),VI x2.Next,VI x2.Base,VI x2.BaseTerm,RO 3 (x2.Conf.map encI)]),(1,.vec 138 (x263.map encRaw))]) (.k [3,5,21,22,23] [1,2]) fun _ x257 x263 _ hk279 => .q e (.a e e (.q e (.B fun x286 hx286 => .st e (Ev.iaF e e hx286) e (.q e (.c0 e i q fun _ _ => .a e e (.f [29704] [] 0 e i q fun _ _ => .a e e (.st e (Ev.bsW (ys := ([(Raw.mk 4 x286.Name (⟨#[]⟩ : ByteArray) (⟨#[]⟩ : ByteArray))] : List Raw)) (f := encRaw) e (.d4 .nil) e e e e e) e (.B fun _ hx295 => .st e (Ev.apW (f := encRaw) (ontoW e e e) (addsW e e e (fun _ => e)) e bt138 e hx295) e (.R e (fun h => ⟨_,_,h,e,e⟩) (.k [3,5,21,22,23] [0,37944])))) (.R e (fun h => ⟨_,_,h,e,e⟩) (.k [3,5,21,22,23] [0,1]))) (.R e (fun h => ⟨_,_,h,e,e⟩) (.k [3,5,21,22,23] [0,1])))))) (.X hk279 e e (.n e (.J e (.k [5] [1]))))))) fun v254 => .Ek [0] e e e
def impl_Frame (N : Nat) (x1 : ByteArray) : Option (ByteArray × Bool) :=
 (impl_within N (x1.size : Int) 1 9000).bind fun y128 =>
 (if (!y128) = true then
 some ((⟨#[]⟩ : ByteArray),false)
 else
 (impl_VarText N (x1.size : Int)).bind fun y133 =>
 (impl_SumOf N x1).bind fun y137 =>
 (intSh .shr .u32 y137 24).bind fun x143 =>
 (intSh .shr .u32 y137 16).bind fun x144 =>
 (intSh .shr .u32 y137 8).bind fun x145 =>
 (scat? y133.1 (strOf ([IntKind.wrap .u8 (x143),IntKind.wrap .u8 (x144),IntKind.wrap .u8 (x145),IntKind.wrap .u8 (y137)] : List Int))).bind fun x146 =>
 (scat? x146 x1).bind fun x147 =>
 some (x147,true))
instance i151 (N : Nat) (x1 : ByteArray) : Sem Tryz.prog 140 (impl_Frame N x1) [VS x1] 0 [] (fun r => .tup [VS r.1,VB r.2]) (fun r => []) := .st e e Tryz.call140 fun B r => .q e (.c0 e i q fun _ _ => .a e e (.Ek [] e e e) (.c0 e i q fun _ _ => .c0 e i q fun y137 _ => .B fun x143 hx143 => .st e (.sh e e hx143) e (.B fun x144 hx144 => .st e (.sh e e hx144) e (.B fun x145 hx145 => .st e (.sh e e hx145) e (.st e (Ev.bsW (ys := ([IntKind.wrap .u8 (x143),IntKind.wrap .u8 (x144),IntKind.wrap .u8 (x145),IntKind.wrap .u8 (y137)] : List Int)) (f := encU) e (.d4 .nil) e e e e e) e (.st e (.sbC (addsW (f := encU) e e e (fun _ => e))) e (.B fun _ hx146 => .st e (Ev.addS e e hx146) e (.B fun _ hx147 => .st e (Ev.addS e e hx147) e (.Ek [] e e e)))))))))
def impl_Unframe_l1 (N : Nat) (x1 : ByteArray) : Nat → Int → (List ByteArray) → Option ((List ByteArray) × Int)
 | 0,_,_ => none
 | m + 1,x182,x183 =>
 (impl_ReadVar N x1 x182).bind fun y225 =>
 (if (!y225.2.2) = true then
 some (x183,x182)
 else
 (if (decide (y225.1 > (w64 ((w64 ((x1.size : Int) - y225.2.1)) - 4)))) = true then
 some (x183,x182)
 else
 (scut? x1 (w64 (y225.2.1 + 4)) (w64 ((w64 (y225.2.1 + 4)) + y225.1))).bind fun x235 =>
 (impl_Frame N x235).bind fun y248 =>
 (if (!y248.2) = true then
 some (x183,x182)
 else
 (scut? x1 x182 (w64 ((w64 (y225.2.1 + 4)) + y225.1))).bind fun x252 =>
 (if (!decide (y248.1 = x252)) = true then
 some (x183,x182)
 else
 (cat? x183 ([x235] : List ByteArray)).bind fun x257 =>
 impl_Unframe_l1 N x1 m (w64 ((w64 (y225.2.1 + 4)) + y225.1)) x257))))
def impl_Unframe (N : Nat) (x1 : ByteArray) : Option ((List ByteArray) × Int) :=
 (if (decide ((x1.size : Int) > 20000)) = true then
 some ([],0)
 else
 (impl_Unframe_l1 N x1 N 0 ([] : (List ByteArray))).bind (fun v220 => some v220))
instance i152 (N : Nat) (x1 : ByteArray) : Sem Tryz.prog 138 (impl_Unframe N x1) [VS x1] 0 [] (fun r => .tup [.sl 0 9 0 r.1.length,VI r.2]) (fun r => [(0,.vec 9 (r.1.map encS))]) := .st e e Tryz.call138 fun B r => .q e (.a e e (.E e e (.n [0,1] [] [0] [] [10000000])) (.L2 e (fun x182 x183 => [(0,VS x1),(4,.sl 0 9 0 x183.length),(5,VI x182)]) (fun x182 x183 => [(0,.vec 9 (x183.map encS))]) (.n [0,4,5] [] [4] [] [10000000]) fun _ x182 x183 _ hk220 => .c0 e i q fun _ _ => .q e (.q e (.a e e (.Xr hk220 e e (.e e (.Ek [0] e e e))) (.a e e (.Xr hk220 e e (.e e (.Ek [0] e e e))) (.B fun x235 hx235 => .st e (Ev.ssB e e e hx235) e (.q e (.c0 e i q fun _ _ => .q e (.a e e (.Xr hk220 e e (.e e (.Ek [0] e e e))) (.B fun _ hx252 => .st e (Ev.ssB e e e hx252) e (.a e e (.Xr hk220 e e (.e e (.Ek [0] e e e))) (.st e (Ev.bsW (ys := ([x235] : List ByteArray)) (f := encS) e (.d1 .nil) e e e e e) e (.B fun _ hx257 => .st e (Ev.apW (f := encS) (ontoW e e e) (addsW e e e (fun _ => e)) e bt9 e hx257) e (.R e (fun h => ⟨_,_,h,e,e⟩) (.k [0,4,5] [50200])))))))))))))))
def impl_ReadShort (N : Nat) (x1 : ByteArray) (x2 : Int) : Option (ByteArray × Int × Bool) :=
 (impl_ReadVar N x1 x2).bind fun y119 =>
 (if (!y119.2.2) = true then
 some ((⟨#[]⟩ : ByteArray),0,false)
 else
 (if (decide (y119.1 > 20000)) = true then
 some ((⟨#[]⟩ : ByteArray),0,false)
 else
 (if (decide (y119.1 > (w64 ((x1.size : Int) - y119.2.1)))) = true then
 some ((⟨#[]⟩ : ByteArray),0,false)
 else
 (scut? x1 y119.2.1 (w64 (y119.2.1 + y119.1))).bind fun x131 =>
 some (x131,w64 (y119.2.1 + y119.1),true))))
instance i153 (N : Nat) (x1 : ByteArray) (x2 : Int) : Sem Tryz.prog 241 (impl_ReadShort N x1 x2) [VS x1,VI x2] 0 [] (fun r => .tup [VS r.1,VI r.2.1,VB r.2.2]) (fun r => []) := .st e e Tryz.call241 fun B r => .c0 e i q fun _ _ => .q e (.q e (.a e e (.Ek [] e e e) (.a e e (.Ek [] e e e) (.a e e (.Ek [] e e e) (.B fun _ hx131 => .st e (Ev.ssB e e e hx131) e (.Ek [] e e e))))))
def reader_text (N : Nat) (x1 : Treader) : Option (ByteArray × Treader) :=
 (impl_ReadShort N x1.s x1.at').bind fun y113 =>
 (if x1.bad = true then
 some ((⟨#[]⟩ : ByteArray),(Treader.mk x1.s x1.at' true))
 else
 (if (!y113.2.2) = true then
 some ((⟨#[]⟩ : ByteArray),(Treader.mk x1.s x1.at' true))
 else
 some (y113.1,(Treader.mk x1.s y113.2.1 x1.bad))))
instance i154 (N : Nat) (x1 : Treader) : Sem Tryz.prog 204 (reader_text N x1) [.ptr 0 0] 1 [(0,.box [VS x1.s,VI x1.at',VB x1.bad])] (fun r => VS r.1) (fun r => [(0,.box [VS r.2.s,VI r.2.at',VB r.2.bad])]) := .st e e Tryz.call204 fun B r => .c0 e i q fun _ _ => .dn e (.q e (.q e (.a e e (.Ek [0] e e e) (.a e e (.Ek [0] e e e) (.Ek [0] e e e)))))
def reader_byte (N : Nat) (x1 : Treader) : Option (Int × Treader) :=
 (if x1.bad = true then
 some (0,(Treader.mk x1.s x1.at' true))
 else
 (if (decide (x1.at' ≥ (x1.s.size : Int))) = true then
 some (0,(Treader.mk x1.s x1.at' true))
 else
 (sat? x1.s (w64 ((w64 (x1.at' + 1)) - 1))).bind fun x115 =>
 some (w64 (x115),(Treader.mk x1.s (w64 (x1.at' + 1)) x1.bad))))
instance i155 (N : Nat) (x1 : Treader) : Sem Tryz.prog 205 (reader_byte N x1) [.ptr 0 0] 1 [(0,.box [VS x1.s,VI x1.at',VB x1.bad])] (fun r => VI r.1) (fun r => [(0,.box [VS r.2.s,VI r.2.at',VB r.2.bad])]) := .st e e Tryz.call205 fun B r => .q e (.q e (.a e e (.dn e (.Ek [0] e e e)) (.dn e (.a e e (.Ek [0] e e e) (.B fun _ hx115 => .st e (Ev.ixS e e hx115) e (.dn e (.Ek [0] e e e)))))))
def impl_ReadBatch_1 (N : Nat) (x1 : Treader) (x2 : Batch) : Option (Batch × Treader) :=
 (reader_text N x1).bind fun y117 =>
 (reader_byte N y117.2).bind fun y121 =>
 (reader_text N y121.2).bind fun y125 =>
 (cat? x2.Changes ([(Change.mk y117.1 y125.1 (y121.1 == 1))] : List Change)).bind fun x127 =>
 some ((Batch.mk x2.Stamp x127),y125.2)
instance i156 (N : Nat) (x1 : Treader) (x2 : Batch) : Sem Tryz.prog 203 (impl_ReadBatch_1 N x1 x2) [.ptr 0 0,.ptr 1 0] 4 [(0,.box [.ptr 2 0]),(1,.box [VI x2.Stamp,.sl 3 268 0 x2.Changes.length]),(2,.box [VS x1.s,VI x1.at',VB x1.bad]),(3,.vec 268 (x2.Changes.map encChange))] (fun r => .tup []) (fun r => [(0,.box [.ptr 2 0]),(1,.box [VI r.1.Stamp,.sl 4 268 0 r.1.Changes.length]),(2,.box [VS r.2.s,VI r.2.at',VB r.2.bad]),(3,.gone),(4,.vec 268 (r.1.Changes.map encChange))]) := .st e e Tryz.call203 fun B r => .f [2] [] 0 e i q fun y117 _ => .f [2] [] 0 e i q fun y121 _ => .f [2] [] 0 e i q fun y125 _ => .st e (Ev.bsW (ys := ([(Change.mk y117.1 y125.1 (y121.1 == 1))] : List Change)) (f := encChange) e (.d2 (.d1 .nil)) e e e e e) e (.B fun _ hx127 => .st e (Ev.apW (f := encChange) (ontoW e e e) (addsW e e e (fun _ => e)) e bt268 e hx127) e (.Ek [0,1,2,3,13352] e e e))
def reader_each_i2_l1 (N : Nat) (y136 : Int × Treader) : Nat → Int → ByteArray → Int → Bool → Int → (List Change) → Option (ByteArray × Int × Bool × Int × (List Change))
 | 0,_,_,_,_,_,_ => none
 | m + 1,x138,x139,x140,x141,x142,x143 =>
 (if (decide (x138 < y136.1)) = true then
 (if (!x141) = true then
 (impl_ReadBatch_1 N (Treader.mk x139 x140 x141) (Batch.mk x142 x143)).bind fun y165 =>
 reader_each_i2_l1 N y136 m (w64 (x138 + 1)) y165.2.s y165.2.at' y165.2.bad y165.1.Stamp y165.1.Changes
 else
 some (x139,x140,x141,x142,x143))
 else
 some (x139,x140,x141,x142,x143))
def reader_each_i2 (N : Nat) (x1 : Treader) (x2 : Batch) : Option (Treader × Batch) :=
 (reader_num N x1).bind fun y136 =>
 (reader_each_i2_l1 N y136 N 0 y136.2.s y136.2.at' y136.2.bad x2.Stamp ([] : (List Change))).bind (fun v154 => some ((Treader.mk v154.1 v154.2.1 v154.2.2.1),(Batch.mk v154.2.2.2.1 v154.2.2.2.2)))
instance i157 (N : Nat) (x1 : Treader) (x2 : Batch) : Sem Tryz.prog 127 (reader_each_i2 N x1 x2) [.ptr 0 0,.fn 203 [.ptr 1 0,.ptr 2 0]] 3 [(0,.box [VS x1.s,VI x1.at',VB x1.bad]),(1,.box [.ptr 0 0]),(2,.box [VI x2.Stamp,NI 268])] (fun r => .tup []) (fun r => [(0,.box [VS r.1.s,VI r.1.at',VB r.1.bad]),(1,.box [.ptr 0 0]),(2,.box [VI r.2.Stamp,.sl 3 268 0 r.2.Changes.length]),(3,.vec 268 (r.2.Changes.map encChange))]) := .st e e Tryz.call127 fun B r => .f [0] [] 0 e i q fun y136 _ => .L6 e (fun x138 x139 x140 x141 x142 x143 => [(0,.ptr 0 0),(1,.fn 203 [.ptr 1 0,.ptr 2 0]),(4,VI y136.1),(5,VI x138)]) (fun x138 x139 x140 x141 x142 x143 => [(0,.box [VS x139,VI x140,VB x141]),(1,.box [.ptr 0 0]),(2,.box [VI x142,.sl 3 268 0 x143.length]),(3,.vec 268 (x143.map encChange))]) (.n [0,1,4,5] [0,1,2] [] [2] [0,1,2,20000000]) fun _ x138 x139 x140 x141 x142 x143 _ hk154 => .q e (.q e (.a e e (.a e e (.B fun _ hy165 => .st e (Ev.callx [1,2,0,3] [] 1 e (sy hy165) e e (.cons (.ptr e) (.cons (.ptr e) .nil)) e (.inl e) e e) e (.R e (fun h => ⟨_,_,_,_,_,_,h,e,e⟩) (.k [0,1,4,5] [0,1,2,17400]))) (.X hk154 e e (.n e (.Ek [0,1,2,3] e e e)))) (.X hk154 e e (.n e (.Ek [0,1,2,3] e e e)))))
def impl_keyOk (N : Nat) (x1 : ByteArray) : Option (Bool) :=
 (impl_within N (x1.size : Int) 1 10).bind fun y103 =>
 some y103
instance i158 (N : Nat) (x1 : ByteArray) : Sem Tryz.prog 146 (impl_keyOk N x1) [VS x1] 0 [] (fun r => VB r) (fun r => []) := .st e e Tryz.call146 fun B r => .c0 e i q fun _ _ => .Ek [] e e e
def impl_BatchOk_l1 (N : Nat) (x1 : Batch) : Nat → Int → Option ((Bool) ⊕ (Unit))
 | 0,_ => none
 | m + 1,x288 =>
 (if (decide (x288 < (x1.Changes.length : Int))) = true then
 (at? x1.Changes x288).bind fun x325 =>
 (impl_keyOk N x325.Key).bind fun y335 =>
 (if (!y335) = true then
 some (Sum.inl false)
 else
 (if (decide ((x325.Value.size : Int) > 40)) = true then
 some (Sum.inl false)
 else
 (if x325.Gone = true then
 (if (!decide (x325.Value = (⟨#[]⟩ : ByteArray))) = true then
 some (Sum.inl false)
 else
 (if (decide (x288 > 0)) = true then
 (at? x1.Changes (w64 (x288 - 1))).bind fun x341 =>
 (if (!Op.bytesLess x341.Key.toList x325.Key.toList) = true then
 some (Sum.inl false)
 else
 impl_BatchOk_l1 N x1 m (w64 (x288 + 1)))
 else
 impl_BatchOk_l1 N x1 m (w64 (x288 + 1))))
 else
 (if (decide (x288 > 0)) = true then
 (at? x1.Changes (w64 (x288 - 1))).bind fun x344 =>
 (if (!Op.bytesLess x344.Key.toList x325.Key.toList) = true then
 some (Sum.inl false)
 else
 impl_BatchOk_l1 N x1 m (w64 (x288 + 1)))
 else
 impl_BatchOk_l1 N x1 m (w64 (x288 + 1))))))
 else
 some (Sum.inr ()))
def impl_BatchOk (N : Nat) (x1 : Batch) : Option (Bool) :=
 joinP (fun (v285 : Unit) =>
 (impl_within N x1.Stamp 0 100000).bind fun y348 =>
 (if y348 = true then
 some (decide ((x1.Changes.length : Int) ≤ 60))
 else
 some false)) fun j285 =>
 (impl_BatchOk_l1 N x1 N 0).bind (Sum.elim (fun v317 => some v317) (fun (v318 : Unit) => j285 ()))
instance i159 (N : Nat) (x1 : Batch) : Sem Tryz.prog 242 (impl_BatchOk N x1) [.agg [VI x1.Stamp,RO 268 (x1.Changes.map encChange)]] 0 [] (fun r => VB r) (fun r => []) := .st e e Tryz.call242 fun B r => .j e (fun _ => [(1,.ptr 0 0)]) (fun _ => [(0,.box [VI x1.Stamp,RO 268 (x1.Changes.map encChange)])]) (fun _ => .st e (Ev.lnF e) e (.L1 e (fun x288 => [(1,.ptr 0 0),(6,RO 268 (x1.Changes.map encChange)),(7,VI (x1.Changes.length : Int)),(8,VI x288)]) (fun x288 => [(0,.box [VI x1.Stamp,RO 268 (x1.Changes.map encChange)])]) (.k [1,6,7,8] [1000]) fun _ x288 _ hk318 => .q e (.a e e (.q e (.B fun _ hx325 => .st e (Ev.iaF e e hx325) e (.q e (.c0 e i q fun _ _ => .a e e (.dn e (.Xr hk318 e e (.il (.e e (.Ek [] e e e))))) (.a e e (.dn e (.Xr hk318 e e (.il (.e e (.Ek [] e e e))))) (.a e e (.a e e (.dn e (.Xr hk318 e e (.il (.e e (.Ek [] e e e))))) (.a e e (.B fun _ hx341 => .st e (Ev.iaF e e hx341) e (.dn e (.a e e (.Xr hk318 e e (.il (.e e (.Ek [] e e e)))) (.R e (fun h => ⟨_,h,e,e⟩) (.k [1,6,7,8] [0]))))) (.dn e (.R e (fun h => ⟨_,h,e,e⟩) (.k [1,6,7,8] [0]))))) (.a e e (.B fun _ hx344 => .st e (Ev.iaF e e hx344) e (.dn e (.a e e (.Xr hk318 e e (.il (.e e (.Ek [] e e e)))) (.R e (fun h => ⟨_,h,e,e⟩) (.k [1,6,7,8] [0]))))) (.dn e (.R e (fun h => ⟨_,h,e,e⟩) (.k [1,6,7,8] [0])))))))))) (.X hk318 e e (.ir (.n e (.J e (.k [1] [0])))))))) fun _ => .q e (.c0 e i q fun _ _ => .a e e (.st e (Ev.lnF e) e (.Ek [] e e e)) (.Ek [] e e e))
def impl_vars_l1 (N : Nat) (x1 : (List Int)) : Nat → Int → (List Int) → Option ((ByteArray × Bool) ⊕ ((List Int)))
 | 0,_,_ => none
 | m + 1,x209,x210 =>
 (if (decide (x209 < (x1.length : Int))) = true then
 (at? x1 x209).bind fun x233 =>
 (impl_VarText N x233).bind fun y237 =>
 (if (!y237.2) = true then
 some (Sum.inl ((⟨#[]⟩ : ByteArray),false))
 else
 (cat? x210 (intsOf y237.1)).bind fun x241 =>
 impl_vars_l1 N x1 m (w64 (x209 + 1)) x241)
 else
 some (Sum.inr x210))
def impl_vars (N : Nat) (x1 : (List Int)) : Option (ByteArray × Bool) :=
 joinP (fun (v206 : (List Int)) =>
 some (strOf v206,true)) fun j206 =>
 (impl_vars_l1 N x1 N 0 ([] : (List Int))).bind (Sum.elim (fun v225 => some v225) (fun (v226 : (List Int)) => j206 v226))
instance i160 (N : Nat) (x1 : (List Int)) : Sem Tryz.prog 201 (impl_vars N x1) [RO 3 (x1.map encI)] 0 [] (fun r => .tup [VS r.1,VB r.2]) (fun r => []) := .st e e Tryz.call201 fun B r => .j e (fun v206 => [(4,.sl 0 5 0 v206.length)]) (fun v206 => [(0,.vec 5 (v206.map encU))]) (fun _ => .st e (Ev.lnF e) e (.L2 e (fun x209 x210 => [(4,.sl 0 5 0 x210.length),(9,RO 3 (x1.map encI)),(10,VI (x1.length : Int)),(11,VI x209)]) (fun x209 x210 => [(0,.vec 5 (x210.map encU))]) (.n [4,9,10,11] [] [4] [] [10000000]) fun _ x209 x210 _ hk226 => .q e (.a e e (.q e (.B fun _ hx233 => .st e (Ev.iaF e e hx233) e (.c0 e i q fun _ _ => .q e (.a e e (.Xr hk226 e e (.il (.e e (.Ek [] e e e)))) (.B fun _ hx241 => .st e (Ev.apS (ontoW e e e) e e e hx241) e (.R e (fun h => ⟨_,_,h,e,e⟩) (.k [4,9,10,11] [33800]))))))) (.X hk226 e e (.ir (.n e (.J e (.k [4] [0])))))))) fun v206 => .st e (.sbC (addsW (f := encU) e e e (fun _ => e))) e (.Ek [] e e e)
def impl_ShortText (N : Nat) (x1 : ByteArray) : Option (ByteArray × Bool) :=
 (if (decide ((x1.size : Int) > 20000)) = true then
 some ((⟨#[]⟩ : ByteArray),false)
 else
 (impl_VarText N (x1.size : Int)).bind fun y113 =>
 (scat? y113.1 x1).bind fun x115 =>
 some (x115,true))
instance i161 (N : Nat) (x1 : ByteArray) : Sem Tryz.prog 240 (impl_ShortText N x1) [VS x1] 0 [] (fun r => .tup [VS r.1,VB r.2]) (fun r => []) := .st e e Tryz.call240 fun B r => .q e (.a e e (.Ek [] e e e) (.c0 e i q fun _ _ => .B fun _ hx115 => .st e (Ev.addS e e hx115) e (.Ek [] e e e)))
def impl_short (N : Nat) (x1 : ByteArray) : Option (ByteArray) :=
 (impl_ShortText N x1).bind fun y107 =>
 some y107.1
instance i162 (N : Nat) (x1 : ByteArray) : Sem Tryz.prog 202 (impl_short N x1) [VS x1] 0 [] (fun r => VS r) (fun r => []) := .st e e Tryz.call202 fun B r => .c0 e i q fun _ _ => .Ek [] e e e
def impl_flag (N : Nat) (x1 : Bool) : Option (ByteArray) :=
 (if x1 = true then
 some (⟨#[1]⟩ : ByteArray)
 else
 some (⟨#[0]⟩ : ByteArray))
instance i163 (N : Nat) (x1 : Bool) : Sem Tryz.prog 243 (impl_flag N x1) [VB x1] 0 [] (fun r => VS r) (fun r => []) := .st e e Tryz.call243 fun B r => .q e (.a e e (.Ek [] e e e) (.Ek [] e e e))
def impl_BatchText_l1 (N : Nat) (x1 : Batch) : Nat → ByteArray → Int → Option (ByteArray)
 | 0,_,_ => none
 | m + 1,x248,x251 =>
 (if (decide (x251 < (x1.Changes.length : Int))) = true then
 (at? x1.Changes x251).bind fun x277 =>
 (impl_short N x277.Key).bind fun y284 =>
 (impl_flag N x277.Gone).bind fun y285 =>
 (scat? y284 y285).bind fun x286 =>
 (impl_short N x277.Value).bind fun y287 =>
 (scat? x286 y287).bind fun x288 =>
 (scat? x248 x288).bind fun x289 =>
 impl_BatchText_l1 N x1 m x289 (w64 (x251 + 1))
 else
 some x248)
def impl_BatchText (N : Nat) (x1 : Batch) : Option (ByteArray × Bool) :=
 (impl_BatchOk N x1).bind fun y199 =>
 (if (!y199) = true then
 some ((⟨#[]⟩ : ByteArray),false)
 else
 (impl_vars N ([x1.Stamp,(x1.Changes.length : Int)] : List Int)).bind fun y204 =>
 joinP (fun (v247 : ByteArray) =>
 some (v247,true)) fun j247 =>
 (impl_BatchText_l1 N x1 N y204.1 0).bind (fun v270 => j247 v270))
instance i164 (N : Nat) (x1 : Batch) : Sem Tryz.prog 206 (impl_BatchText N x1) [.agg [VI x1.Stamp,RO 268 (x1.Changes.map encChange)]] 0 [] (fun r => .tup [VS r.1,VB r.2]) (fun r => []) := .st e e Tryz.call206 fun B r => .q e (.c0 e i q fun _ _ => .a e e (.Ek [] e e e) (.st e (Ev.lnF e) e (.st e (Ev.bsW (ys := ([x1.Stamp,(x1.Changes.length : Int)] : List Int)) (f := encI) e (.d2 .nil) e e e e e) e (.f (hp := (.cons (.borrow e (by decide) (lendW (fun _ => e) _ e)) .nil)) (hcase := fun _ => (.inr ⟨rfl,ownL_root trivial⟩)) [] [13368] 0 e i q fun _ _ => .j e (fun v247 => [(4,VS v247)]) (fun v247 => []) (fun _ => .st e (Ev.lnF e) e (.L2 e (fun x248 x251 => [(4,VS x248),(22,RO 268 (x1.Changes.map encChange)),(23,VI (x1.Changes.length : Int)),(24,VI x251)]) (fun x248 x251 => []) (.k [4,22,23,24] []) fun _ x248 x251 _ hk270 => .q e (.a e e (.B fun _ hx277 => .st e (Ev.iaF e e hx277) e (.c0 e i q fun _ _ => .c0 e i q fun _ _ => .B fun _ hx286 => .st e (Ev.addS e e hx286) e (.c0 e i q fun _ _ => .B fun _ hx288 => .st e (Ev.addS e e hx288) e (.B fun _ hx289 => .st e (Ev.addS e e hx289) e (.dn e (.R e (fun h => ⟨_,_,h,e,e⟩) (.k [4,22,23,24] []))))))) (.X hk270 e e (.n e (.J e (.k [4] []))))))) fun v247 => .Ek [] e e e))))
def impl_ReadBatch (N : Nat) (x1 : ByteArray) : Option (Batch × Bool) :=
 (reader_num N (Treader.mk x1 0 false)).bind fun y129 =>
 (reader_each_i2 N y129.2 (Batch.mk y129.1 ([]))).bind fun y133 =>
 (impl_BatchText N y133.2).bind fun y146 =>
 (if y133.1.bad = true then
 some ((Batch.mk 0 ([])),false)
 else
 (if (!y146.2) = true then
 some ((Batch.mk 0 ([])),false)
 else
 (if (!decide (y146.1 = x1)) = true then
 some ((Batch.mk 0 ([])),false)
 else
 some (y133.2,true))))
instance i165 (N : Nat) (x1 : ByteArray) : Sem Tryz.prog 139 (impl_ReadBatch N x1) [VS x1] 0 [] (fun r => .tup [.agg [VI r.1.Stamp,.sl 0 268 0 r.1.Changes.length],VB r.2]) (fun r => [(0,.vec 268 (r.1.Changes.map encChange))]) := .st e e Tryz.call139 fun B r => .f [5128] [] 0 e i q fun _ _ => .f [5128,5144,9240] [] 1 e i q fun _ _ => .q e (.f (hp := (.cons (.agg (.d1 (.cons (.borrow e (by decide) (lendW (fun _ => e) _ e)) .nil))) .nil)) (hcase := fun _ => (.inr ⟨rfl,ownL_root trivial⟩)) [] [13320] 0 e i q fun _ _ => .q e (.a e e (.E e e (.n [0,1] [] [0] [] [10000000])) (.a e e (.E e e (.n [0,1] [] [0] [] [10000000])) (.a e e (.E e e (.n [0,1] [] [0] [] [10000000])) (.Ek [13320] e e e)))))
def impl_batchesOf_l1 (N : Nat) (y194 : (List ByteArray) × Int) : Nat → Int → Int → (List Tplaced) → Option (Int × (List Tplaced))
 | 0,_,_,_ => none
 | m + 1,x239,x241,x242 =>
 (if (decide (x241 < ((y194.1.length : Nat) : Int))) = true then
 (at? y194.1 x241).bind fun x269 =>
 (impl_ReadBatch N x269).bind fun y273 =>
 (if (!y273.2) = true then
 some (x239,x242)
 else
 (impl_Frame N x269).bind fun y279 =>
 (cat? x242 ([(Tplaced.mk y273.1 x269 (w64 ((w64 (x239 + (y279.1.size : Int))) - (x269.size : Int))))] : List Tplaced)).bind fun x281 =>
 impl_batchesOf_l1 N y194 m (w64 (x239 + (y279.1.size : Int))) (w64 (x241 + 1)) x281)
 else
 some (x239,x242))
def impl_batchesOf (N : Nat) (x1 : ByteArray) : Option ((List Tplaced) × Int) :=
 (impl_Unframe N x1).bind fun y194 =>
 joinP (fun (v238 : Int × (List Tplaced)) =>
 some (v238.2,v238.1)) fun j238 =>
 (impl_batchesOf_l1 N y194 N 0 0 ([] : (List Tplaced))).bind (fun v262 => j238 (v262.1,v262.2))
instance i166 (N : Nat) (x1 : ByteArray) : Sem Tryz.prog 76 (impl_batchesOf N x1) [VS x1] 0 [] (fun r => .tup [.sl 0 234 0 r.1.length,VI r.2]) (fun r => [(0,.vec 234 (r.1.map (encTplaced false)))]) := .st e e Tryz.call76 fun B r => .c1 e i q fun y194 _ => .j e (fun v238 => [(6,.sl 0 234 0 v238.2.length),(7,VI v238.1)]) (fun v238 => [(0,.vec 234 (v238.2.map (encTplaced false)))]) (fun _ => .L3 e (fun x239 x241 x242 => [(6,.sl 0 234 0 x242.length),(7,VI x239),(19,.sl 1 9 0 y194.1.length),(20,VI ((y194.1.length : Nat) : Int)),(21,VI x241)]) (fun x239 x241 x242 => [(0,.vec 234 (x242.map (encTplaced false))),(1,.vec 9 (y194.1.map encS))]) (.n [6,7,19,20,21] [5112] [6] [] [10000000,5112]) fun _ x239 x241 x242 _ hk262 => .q e (.a e e (.q e (.B fun x269 hx269 => .st e (Ev.iaW e e e hx269) e (.st e (Ev.ldE (f := encS) e e (at_some hx269).2 e e e) e (.c1 e i q fun y273 _ => .q e (.a e e (.X hk262 e e (.n e (.J e (.k [6,7] [0])))) (.c0 e i q fun y279 _ => .stz e (EvZ.frz (f := encChange) (g := encChange) (xs := y273.1.Changes) 29688 (fun _ => e) e (.mk (Ev.bsW (ys := ([(Tplaced.mk y273.1 x269 (w64 ((w64 (x239 + (y279.1.size : Int))) - (x269.size : Int))))] : List Tplaced)) (f := (encTplaced false)) e (.d1 (.cons (.ro e (shareW _ e)) (.d2 .nil))) e e e e e))) e (.B fun _ hx281 => .st e (Ev.apW (f := (encTplaced false)) (ontoW e e e) (addsW e e e (fun _ => e)) e bt234 e hx281) e (.R e (fun h => ⟨_,_,_,h,e,e⟩) (.k [6,7,19,20,21] [46200,1]))))))))) (.X hk262 e e (.n e (.J e (.k [6,7] [0])))))) fun v238 => .Ek [0] e e e
def impl_spotsOf_l1 (N : Nat) (x1 : Tplaced) (x2 : Int) : Nat → Int → Int → (List Spot) → Option ((List Spot))
 | 0,_,_,_ => none
 | m + 1,x249,x252,x253 =>
 (if (decide (x252 < (x1.b.Changes.length : Int))) = true then
 (at? x1.b.Changes x252).bind fun x280 =>
 (impl_short N x280.Value).bind fun y284 =>
 (impl_short N x280.Key).bind fun y288 =>
 (if x280.Gone = true then
 (cat? x253 ([(Spot.mk x280.Key x2 0 (-1 : Int))] : List Spot)).bind fun x291 =>
 impl_spotsOf_l1 N x1 x2 m (w64 (x249 + (w64 ((w64 ((y288.size : Int) + 1)) + (y284.size : Int))))) (w64 (x252 + 1)) x291
 else
 (cat? x253 ([(Spot.mk x280.Key x2 (w64 ((w64 (x249 + (w64 ((w64 ((y288.size : Int) + 1)) + (y284.size : Int))))) - (x280.Value.size : Int))) (x280.Value.size : Int))] : List Spot)).bind fun x293 =>
 impl_spotsOf_l1 N x1 x2 m (w64 (x249 + (w64 ((w64 ((y288.size : Int) + 1)) + (y284.size : Int))))) (w64 (x252 + 1)) x293)
 else
 some x253)
def impl_spotsOf (N : Nat) (x1 : Tplaced) (x2 : Int) : Option ((List Spot)) :=
 (impl_vars N ([x1.b.Stamp,(x1.b.Changes.length : Int)] : List Int)).bind fun y200 =>
 joinP (fun (v247 : (List Spot)) =>
 some v247) fun j247 =>
 (impl_spotsOf_l1 N x1 x2 N (w64 (x1.at' + (y200.1.size : Int))) 0 ([] : (List Spot))).bind (fun v273 => j247 v273)
instance i167 (N : Nat) (x1 : Tplaced) (x2 : Int) : Sem Tryz.prog 137 (impl_spotsOf N x1 x2) [.agg [VI x1.b.Stamp,RO 268 (x1.b.Changes.map encChange),VS x1.text,VI x1.at'],VI x2] 0 [] (fun r => .sl 0 148 0 r.length) (fun r => [(0,.vec 148 (r.map encSpot))]) := .st e e Tryz.call137 fun B r => .st e (Ev.lnF e) e (.st e (Ev.bsW (ys := ([x1.b.Stamp,(x1.b.Changes.length : Int)] : List Int)) (f := encI) e (.d2 .nil) e e e e e) e (.f (hp := (.cons (.borrow e (by decide) (lendW (fun _ => e) _ e)) .nil)) (hcase := fun _ => (.inr ⟨rfl,ownL_root trivial⟩)) [] [5208] 0 e i q fun _ _ => .j e (fun v247 => [(8,.sl 0 148 0 v247.length)]) (fun v247 => [(0,.vec 148 (v247.map encSpot))]) (fun _ => .st e (Ev.lnF e) e (.L3 e (fun x249 x252 x253 => [(1,VI x2),(7,VI x249),(8,.sl 0 148 0 x253.length),(31,RO 268 (x1.b.Changes.map encChange)),(32,VI (x1.b.Changes.length : Int)),(33,VI x252)]) (fun x249 x252 x253 => [(0,.vec 148 (x253.map encSpot))]) (.n [1,7,8,31,32,33] [] [8] [] [10000000]) fun _ x249 x252 x253 _ hk273 => .q e (.a e e (.q e (.B fun x280 hx280 => .st e (Ev.iaF e e hx280) e (.c0 e i q fun y284 _ => .c0 e i q fun y288 _ => .a e e (.st e (Ev.bsW (ys := ([(Spot.mk x280.Key x2 0 (-1 : Int))] : List Spot)) (f := encSpot) e (.d4 .nil) e e e e e) e (.B fun _ hx291 => .st e (Ev.apW (f := encSpot) (ontoW e e e) (addsW e e e (fun _ => e)) e bt148 e hx291) e (.R e (fun h => ⟨_,_,_,h,e,e⟩) (.k [1,7,8,31,32,33] [42056])))) (.st e (Ev.bsW (ys := ([(Spot.mk x280.Key x2 (w64 ((w64 (x249 + (w64 ((w64 ((y288.size : Int) + 1)) + (y284.size : Int))))) - (x280.Value.size : Int))) (x280.Value.size : Int))] : List Spot)) (f := encSpot) e (.d4 .nil) e e e e e) e (.B fun _ hx293 => .st e (Ev.apW (f := encSpot) (ontoW e e e) (addsW e e e (fun _ => e)) e bt148 e hx293) e (.R e (fun h => ⟨_,_,_,h,e,e⟩) (.k [1,7,8,31,32,33] [46280]))))))) (.X hk273 e e (.n e (.J e (.k [8] [0]))))))) fun v247 => .Ek [0] e e e))
def impl_ScanSeg_l1 (N : Nat) (x2 : Int) (y198 : (List Tplaced) × Int) : Nat → Int → Int → (List Spot) → (List ByteArray) → Option (Int × (List Spot) × (List ByteArray))
 | 0,_,_,_,_ => none
 | m + 1,x246,x248,x249,x250 =>
 (if (decide (x248 < ((y198.1.length : Nat) : Int))) = true then
 (at? y198.1 x248).bind fun x277 =>
 (impl_spotsOf N x277 x2).bind fun y284 =>
 (cat? x249 y284).bind fun x285 =>
 (cat? x250 ([x277.text] : List ByteArray)).bind fun x289 =>
 impl_ScanSeg_l1 N x2 y198 m (imax x246 x277.b.Stamp) (w64 (x248 + 1)) x285 x289
 else
 some (x246,x249,x250))
def impl_ScanSeg (N : Nat) (x1 : ByteArray) (x2 : Int) : Option ((List Spot) × (List ByteArray) × Int) :=
 (impl_batchesOf N x1).bind fun y198 =>
 joinP (fun (v244 : Int × (List Spot) × (List ByteArray)) =>
 some (v244.2.1,v244.2.2,v244.1)) fun j244 =>
 (impl_ScanSeg_l1 N x2 y198 N (-1 : Int) 0 ([] : (List Spot)) ([] : (List ByteArray))).bind (fun v270 => j244 (v270.1,v270.2.1,v270.2.2))
instance i168 (N : Nat) (x1 : ByteArray) (x2 : Int) : Sem Tryz.prog 75 (impl_ScanSeg N x1 x2) [VS x1,VI x2] 0 [] (fun r => .tup [.sl 0 148 0 r.1.length,.sl 1 9 0 r.2.1.length,VI r.2.2]) (fun r => [(0,.vec 148 (r.1.map encSpot)),(1,.vec 9 (r.2.1.map encS))]) := .st e e Tryz.call75 fun B r => .c1 e i q fun y198 _ => .j e (fun v244 => [(9,.sl 0 148 0 v244.2.1.length),(10,.sl 1 9 0 v244.2.2.length),(11,VI v244.1)]) (fun v244 => [(0,.vec 148 (v244.2.1.map encSpot)),(1,.vec 9 (v244.2.2.map encS))]) (fun _ => .L4 e (fun x246 x248 x249 x250 => [(1,VI x2),(9,.sl 0 148 0 x249.length),(10,.sl 1 9 0 x250.length),(11,VI x246),(19,.sl 2 234 0 y198.1.length),(20,VI ((y198.1.length : Nat) : Int)),(21,VI x248)]) (fun x246 x248 x249 x250 => [(0,.vec 148 (x249.map encSpot)),(1,.vec 9 (x250.map encS)),(2,.vec 234 (y198.1.map (encTplaced false)))]) (.n [1,9,10,11,19,20,21] [5112] [9,10] [] [10000000,10000064,5112]) fun _ x246 x248 x249 x250 _ hk270 => .q e (.a e e (.B fun x277 hx277 => .st e (Ev.iaW e e e hx277) e (.st e (Ev.ldE (f := (encTplaced false)) e e (at_some hx277).2 e e e) e (.c1 e i q fun _ _ => .B fun _ hx285 => .st e (Ev.apW (f := encSpot) (ontoW e e e) (addsW e e e (fun _ => e)) e bt148 e hx285) e (.st e (Ev.bsW (ys := ([x277.text] : List ByteArray)) (f := encS) e (.d1 .nil) e e e e e) e (.B fun _ hx289 => .st e (Ev.apW (f := encS) (ontoW e e e) (addsW e e e (fun _ => e)) e bt9 e hx289) e (.R e (fun h => ⟨_,_,_,_,h,e,e⟩) (.k [1,9,10,11,19,20,21] [33832,37928,2]))))))) (.X hk270 e e (.n e (.J e (.k [9,10,11] [0,1])))))) fun v244 => .Ek [0,1] e e e
def impl_DirOk_l1 (N : Nat) (x1 : (List Spot)) : Nat → Int → Option ((Bool) ⊕ (Unit))
 | 0,_ => none
 | m + 1,x288 =>
 (if (decide (x288 < (x1.length : Int))) = true then
 (at? x1 x288).bind fun x324 =>
 (impl_keyOk N x324.Key).bind fun y335 =>
 (if (!y335) = true then
 some (Sum.inl false)
 else
 (impl_within N x324.Seg 0 999).bind fun y337 =>
 (if (!y337) = true then
 some (Sum.inl false)
 else
 (impl_within N x324.At 0 20000).bind fun y339 =>
 (if (!y339) = true then
 some (Sum.inl false)
 else
 (impl_within N x324.Size 0 40).bind fun y341 =>
 (if (!y341) = true then
 some (Sum.inl false)
 else
 (if (decide (x288 > 0)) = true then
 (at? x1 (w64 (x288 - 1))).bind fun x344 =>
 (if (!Op.bytesLess x344.Key.toList x324.Key.toList) = true then
 some (Sum.inl false)
 else
 impl_DirOk_l1 N x1 m (w64 (x288 + 1)))
 else
 impl_DirOk_l1 N x1 m (w64 (x288 + 1)))))))
 else
 some (Sum.inr ()))
def impl_DirOk (N : Nat) (x1 : (List Spot)) : Option (Bool) :=
 joinP (fun (v284 : Unit) =>
 some (decide ((x1.length : Int) ≤ 60))) fun j284 =>
 (impl_DirOk_l1 N x1 N 0).bind (Sum.elim (fun v316 => some v316) (fun (v317 : Unit) => j284 ()))
instance i169 (N : Nat) (x1 : (List Spot)) : Sem Tryz.prog 78 (impl_DirOk N x1) [RO 148 (x1.map encSpot)] 0 [] (fun r => VB r) (fun r => []) := .st e e Tryz.call78 fun B r => .j e (fun _ => [(0,RO 148 (x1.map encSpot))]) (fun _ => []) (fun _ => .st e (Ev.lnF e) e (.L1 e (fun x288 => [(0,RO 148 (x1.map encSpot)),(5,RO 148 (x1.map encSpot)),(6,VI (x1.length : Int)),(7,VI x288)]) (fun x288 => []) (.k [0,5,6,7] []) fun _ x288 _ hk317 => .q e (.a e e (.q e (.B fun _ hx324 => .st e (Ev.iaF e e hx324) e (.q e (.c0 e i q fun _ _ => .a e e (.dn e (.Xr hk317 e e (.il (.e e (.Ek [] e e e))))) (.c0 e i q fun _ _ => .a e e (.dn e (.Xr hk317 e e (.il (.e e (.Ek [] e e e))))) (.c0 e i q fun _ _ => .a e e (.dn e (.Xr hk317 e e (.il (.e e (.Ek [] e e e))))) (.c0 e i q fun _ _ => .a e e (.dn e (.Xr hk317 e e (.il (.e e (.Ek [] e e e))))) (.a e e (.B fun _ hx344 => .st e (Ev.iaF e e hx344) e (.dn e (.a e e (.Xr hk317 e e (.il (.e e (.Ek [] e e e)))) (.R e (fun h => ⟨_,h,e,e⟩) (.k [0,5,6,7] []))))) (.dn e (.R e (fun h => ⟨_,h,e,e⟩) (.k [0,5,6,7] []))))))))))) (.X hk317 e e (.ir (.n e (.J e (.k [0] [])))))))) fun _ => .st e (Ev.lnF e) e (.Ek [] e e e)
def impl_DirMore_1 (N : Nat) (x1 : Spot) (x2 : ByteArray) : Option (Int) :=
 (strings_Compare N x1.Key x2).bind fun y103 =>
 some y103
instance i170 (N : Nat) (x1 : Spot) (x2 : ByteArray) : Sem Tryz.prog 142 (impl_DirMore_1 N x1 x2) [.agg [VS x1.Key,VI x1.Seg,VI x1.At,VI x1.Size],VS x2] 0 [] (fun r => VI r) (fun r => []) := .st e e Tryz.call142 fun B r => .c0 e i q fun _ _ => .Ek [] e e e
def slices_BinarySearchFunc_string_i1_l1 (N : Nat) (x1 : (List Spot)) (x2 : ByteArray) : Nat → Int → Int → Option (Int)
 | 0,_,_ => none
 | m + 1,x198,x199 =>
 (if (decide (x198 < x199)) = true then
 (intSh .shr .u64 (IntKind.wrap .u64 (w64 (x198 + x199))) 1).bind fun x218 =>
 (at? x1 (w64 (x218))).bind fun x221 =>
 (impl_DirMore_1 N x221 x2).bind fun y222 =>
 (if (decide (y222 < 0)) = true then
 slices_BinarySearchFunc_string_i1_l1 N x1 x2 m (w64 ((w64 (x218)) + 1)) x199
 else
 slices_BinarySearchFunc_string_i1_l1 N x1 x2 m x198 (w64 (x218)))
 else
 some x198)
def slices_BinarySearchFunc_string_i1 (N : Nat) (x1 : (List Spot)) (x2 : ByteArray) : Option (Int × Bool) :=
 joinP (fun (v194 : Int) =>
 (if (decide (v194 < (x1.length : Int))) = true then
 (at? x1 v194).bind fun x228 =>
 (impl_DirMore_1 N x228 x2).bind fun y229 =>
 some (v194,(y229 == 0))
 else
 some (v194,false))) fun j194 =>
 (slices_BinarySearchFunc_string_i1_l1 N x1 x2 N 0 (x1.length : Int)).bind (fun v211 => j194 v211)
instance i171 (N : Nat) (x1 : (List Spot)) (x2 : ByteArray) : Sem Tryz.prog 141 (slices_BinarySearchFunc_string_i1 N x1 x2) [RO 148 (x1.map encSpot),VS x2,.fn 142 []] 0 [] (fun r => .tup [VI r.1,VB r.2]) (fun r => []) := .st e e Tryz.call141 fun B r => .st e (Ev.lnF e) e (.j e (fun v194 => [(0,RO 148 (x1.map encSpot)),(1,VS x2),(2,.fn 142 []),(8,VI (x1.length : Int)),(9,VI v194)]) (fun v194 => []) (fun _ => .L2 e (fun x198 x199 => [(0,RO 148 (x1.map encSpot)),(1,VS x2),(2,.fn 142 []),(8,VI (x1.length : Int)),(9,VI x198),(10,VI x199)]) (fun x198 x199 => []) (.k [0,1,2,8,9,10] []) fun _ x198 x199 _ hk211 => .q e (.a e e (.B fun _ hx218 => .st e (.sh e e hx218) e (.B fun _ hx221 => .st e (Ev.iaF e e hx221) e (.B fun _ hy222 => .st e (Ev.callx [] [] 0 e (sy hy222) e e (.cons (.agg (.d4 .nil)) (.d1 .nil)) e (.inl e) e e) e (.a e e (.R e (fun h => ⟨_,_,h,e,e⟩) (.k [0,1,2,8,9,10] [])) (.R e (fun h => ⟨_,_,h,e,e⟩) (.k [0,1,2,8,9,10] [])))))) (.X hk211 e e (.n e (.J e (.k [0,1,2,8,9] [])))))) fun v194 => .q e (.a e e (.B fun _ hx228 => .st e (Ev.iaF e e hx228) e (.B fun _ hy229 => .st e (Ev.callx [] [] 0 e (sy hy229) e e (.cons (.agg (.d4 .nil)) (.d1 .nil)) e (.inl e) e e) e (.Ek [] e e e))) (.Ek [] e e e)))
def slices_Delete_Spot (N : Nat) (x1 : (List Spot)) (x2 : Int) (x3 : Int) : Option ((List Spot)) := del? x1 x2 x3
instance i172 (N : Nat) (x1 : (List Spot)) (x2 : Int) (x3 : Int) : Sem Tryz.prog 144 (slices_Delete_Spot N x1 x2 x3) [.sl 0 148 0 x1.length,VI x2,VI x3] 1 [(0,.vec 148 (x1.map encSpot))] (fun r => .sl 1 148 0 r.length) (fun r => [(0,.gone),(1,.vec 148 (r.map encSpot))]) := ⟨fun r h => says_del Tryz.call144 Pe.ins144 (fun _ => e) h⟩
def slices_Insert_Spot (N : Nat) (x1 : (List Spot)) (x2 : Int) (x3 : (List Spot)) : Option ((List Spot)) := ins? x1 x2 x3
instance i173 (N : Nat) (x1 : (List Spot)) (x2 : Int) (x3 : (List Spot)) : Sem Tryz.prog 145 (slices_Insert_Spot N x1 x2 x3) [.sl 0 148 0 x1.length,VI x2,.sl 1 148 0 x3.length] 2 [(0,.vec 148 (x1.map encSpot)),(1,.vec 148 (x3.map encSpot))] (fun r => .sl 2 148 0 r.length) (fun r => [(0,.gone),(1,.gone),(2,.vec 148 (r.map encSpot))]) := ⟨fun r h => says_ins Tryz.call145 Pe.ins145 (fun _ => e) h⟩
def impl_DirMore_l1 (N : Nat) (x2 : (List Spot)) : Nat → Int → (List Spot) → Option ((List Spot))
 | 0,_,_ => none
 | m + 1,x268,x269 =>
 (if (decide (x268 < (x2.length : Int))) = true then
 (at? x2 x268).bind fun x297 =>
 (slices_BinarySearchFunc_string_i1 N x269 x297.Key).bind fun y301 =>
 (if (x297.Size == (-1 : Int)) = true then
 (if y301.2 = true then
 (slices_Delete_Spot N x269 y301.1 (w64 (y301.1 + 1))).bind fun y306 =>
 impl_DirMore_l1 N x2 m (w64 (x268 + 1)) y306
 else
 impl_DirMore_l1 N x2 m (w64 (x268 + 1)) x269)
 else
 (if y301.2 = true then
 (at? x269 y301.1).bind fun x309 =>
 impl_DirMore_l1 N x2 m (w64 (x268 + 1)) (x269.set y301.1.toNat x297)
 else
 (slices_Insert_Spot N x269 y301.1 ([x297] : List Spot)).bind fun y311 =>
 impl_DirMore_l1 N x2 m (w64 (x268 + 1)) y311))
 else
 some x269)
def impl_DirMore (N : Nat) (x1 : (List Spot)) (x2 : (List Spot)) : Option ((List Spot) × Bool) :=
 (impl_DirOk N x1).bind fun y213 =>
 (if (!y213) = true then
 some ([],false)
 else
 (cat? ([] : List Spot) x1).bind fun x218 =>
 joinP (fun (v265 : (List Spot)) =>
 (impl_DirOk N v265).bind fun y316 =>
 (if (!y316) = true then
 some ([],false)
 else
 some (v265,true))) fun j265 =>
 (impl_DirMore_l1 N x2 N 0 x218).bind (fun v290 => j265 v290))
instance i174 (N : Nat) (x1 : (List Spot)) (x2 : (List Spot)) : Sem Tryz.prog 77 (impl_DirMore N x1 x2) [RO 148 (x1.map encSpot),RO 148 (x2.map encSpot)] 0 [] (fun r => .tup [.sl 0 148 0 r.1.length,VB r.2]) (fun r => [(0,.vec 148 (r.1.map encSpot))]) := .st e e Tryz.call77 fun B r => .q e (.c0 e i q fun _ _ => .a e e (.E e e (.n [0,1] [] [0] [] [10000000])) (.B fun _ hx218 => .st e (Ev.apW (f := encSpot) (ontoN (f := encSpot) e) (addsF e) e bt148 e hx218) e (.j e (fun v265 => [(6,.sl 0 148 0 v265.length)]) (fun v265 => [(0,.vec 148 (v265.map encSpot))]) (fun _ => .st e (Ev.lnF e) e (.L2 e (fun x268 x269 => [(6,.sl 0 148 0 x269.length),(16,RO 148 (x2.map encSpot)),(17,VI (x2.length : Int)),(18,VI x268)]) (fun x268 x269 => [(0,.vec 148 (x269.map encSpot))]) (.k [6,16,17,18] [13304]) fun _ x268 x269 _ hk290 => .q e (.a e e (.q e (.B fun x297 hx297 => .st e (Ev.iaF e e hx297) e (.f (hp := (.cons (.borrow e (by decide) (lendW (fun _ => e) _ e)) (.d1 (.cons (.fn .nil) .nil)))) (hcase := fun _ => (.inr ⟨rfl,ownL_root trivial⟩)) [] [0] 0 e i q fun _ _ => .q e (.a' e e (fun g303 => .a e e (.f [0] [] 1 e i q fun _ _ => .R e (fun h => ⟨_,_,h,e,e⟩) (.k [6,16,17,18] [42024])) (.kn e e e g303 (.R e (fun h => ⟨_,_,h,e,e⟩) (.k [6,16,17,18] [0])))) (fun g303 => .kn e e e g303 (.a e e (.B fun _ hx309 => .st e (Ev.iaW e e e hx309) e (.st e (Ev.stE (f := encSpot) (v' := x297) e e (at_some hx309).2 e (.d4 .nil) e e e e e) e (.R e (fun h => ⟨_,_,h,e,e⟩) (.k [6,16,17,18] [0])))) (.st e (Ev.bsW (ys := ([x297] : List Spot)) (f := encSpot) e (.d4 .nil) e e e e e) e (.f [0,33816] [] 1 e i q fun _ _ => .R e (fun h => ⟨_,_,h,e,e⟩) (.k [6,16,17,18] [33832]))))))))) (.X hk290 e e (.n e (.J e (.k [6] [0]))))))) fun v265 => .q e (.f (hp := (.cons (.borrow e (by decide) (lendW (fun _ => e) _ e)) .nil)) (hcase := fun _ => (.inr ⟨rfl,ownL_root trivial⟩)) [] [0] 0 e i q fun _ _ => .a e e (.E e e (.n [0,1] [] [0] [] [10000000])) (.Ek [0] e e e)))))
def impl_OpenShelf_l1 (N : Nat) (x1 : Disk) (y483 : Manifest × Bool) : Nat → Int → Option ((Shelf × (List Raw) × Int) ⊕ (Unit))
 | 0,_ => none
 | m + 1,x540 =>
 (if (decide (x540 < ((y483.1.Segs.length : Nat) : Int))) = true then
 (at? y483.1.Segs x540).bind fun x577 =>
 (impl_SegName N x577).bind fun y584 =>
 (impl_FileAt N x1 y584).bind fun y585 =>
 (if (!y585.2) = true then
 some (Sum.inl ((Shelf.mk (Manifest.mk ([]) 0 0 0 ([])) ([]) 0),[],3))
 else
 impl_OpenShelf_l1 N x1 y483 m (w64 (x540 + 1)))
 else
 some (Sum.inr ()))
def impl_OpenShelf_l2 (N : Nat) (x1 : Disk) (y483 : Manifest × Bool) : Nat → Int → Int → (List Raw) → (List Spot) → Option ((Shelf × (List Raw) × Int) ⊕ (Int × (List Raw) × (List Spot)))
 | 0,_,_,_,_ => none
 | m + 1,x714,x726,x727,x728 =>
 (if (decide (x714 < ((y483.1.Segs.length : Nat) : Int))) = true then
 (at? y483.1.Segs x714).bind fun x791 =>
 (impl_SegName N x791).bind fun y798 =>
 (impl_FileAt N x1 y798).bind fun y799 =>
 (impl_ScanSeg N y799.1 x791).bind fun y803 =>
 (impl_batchesOf N y799.1).bind fun y807 =>
 joinP (fun (v811 : Unit) =>
 joinP (fun (v822 : (List Raw)) =>
 (cat? x728 y803.1).bind fun x833 =>
 impl_OpenShelf_l2 N x1 y483 m (w64 (x714 + 1)) (imax x726 y803.2.2) v822 x833) fun j822 =>
 (if (decide (y807.2 < (y799.1.size : Int))) = true then
 (impl_SegName N x791).bind fun y827 =>
 (stake? y799.1 y807.2).bind fun x828 =>
 (cat? x727 ([(Raw.mk 1 y827 (⟨#[]⟩ : ByteArray) x828)] : List Raw)).bind fun x829 =>
 j822 x829
 else
 j822 x727)) fun j811 =>
 (if (decide (y807.2 < (y799.1.size : Int))) = true then
 (if (decide (x714 < (w64 (((y483.1.Segs.length : Nat) : Int) - 1)))) = true then
 some (Sum.inl ((Shelf.mk (Manifest.mk ([]) 0 0 0 ([])) ([]) 0),[],4))
 else
 j811 ())
 else
 j811 ())
 else
 some (Sum.inr (x726,x727,x728)))
def impl_OpenShelf (N : Nat) (x1 : Disk) : Option (Shelf × (List Raw) × Int) :=
 (impl_DiskOk N x1).bind fun y474 =>
 (if (!y474) = true then
 some ((Shelf.mk (Manifest.mk ([]) 0 0 0 ([])) ([]) 0),[],1)
 else
 (impl_FileAt N x1 (⟨#[109]⟩ : ByteArray)).bind fun y479 =>
 (impl_ReadManifest N y479.1).bind fun y483 =>
 (if (!y479.2) = true then
 some ((Shelf.mk (Manifest.mk ([]) 0 0 0 ([])) ([]) 0),[],2)
 else
 (if (!y483.2) = true then
 some ((Shelf.mk (Manifest.mk ([]) 0 0 0 ([])) ([]) 0),[],2)
 else
 joinP (fun (v538 : Unit) =>
 (impl_cleaning N x1 y483.1).bind fun y590 =>
 joinP (fun (v712 : Int × (List Raw) × (List Spot)) =>
 (impl_DirMore N ([] : List Spot) v712.2.2).bind fun y837 =>
 (if (!y837.2) = true then
 some ((Shelf.mk (Manifest.mk ([]) 0 0 0 ([])) ([]) 0),[],4)
 else
 some ((Shelf.mk y483.1 y837.1 v712.1),v712.2.1,0))) fun j712 =>
 (impl_OpenShelf_l2 N x1 y483 N 0 y483.1.Base y590 ([] : (List Spot))).bind (Sum.elim (fun v783 => some v783) (fun (v784 : Int × (List Raw) × (List Spot)) => j712 (v784.1,v784.2.1,v784.2.2)))) fun j538 =>
 (impl_OpenShelf_l1 N x1 y483 N 0).bind (Sum.elim (fun v569 => some v569) (fun (v570 : Unit) => j538 ())))))
instance i175 (N : Nat) (x1 : Disk) : Sem Tryz.prog 31 (impl_OpenShelf N x1) [.agg [RO 141 (x1.Files.map encFile)]] 0 [] (fun r => .tup [.agg [.sl 0 3 0 r.1.Man.Segs.length,VI r.1.Man.Next,VI r.1.Man.Base,VI r.1.Man.BaseTerm,.sl 1 3 0 r.1.Man.Conf.length,.sl 2 148 0 r.1.Dir.length,VI r.1.Stamp],.sl 3 138 0 r.2.1.length,VI r.2.2]) (fun r => [(0,.vec 3 (r.1.Man.Segs.map encI)),(1,.vec 3 (r.1.Man.Conf.map encI)),(2,.vec 148 (r.1.Dir.map encSpot)),(3,.vec 138 (r.2.1.map encRaw))]) := .st e e Tryz.call31 fun B r => .q e (.c0 e i q fun _ _ => .a e e (.E e e (.n [0,1,2] [] [0,1] [] [10000000,10000001,10000002,10000064])) (.c0 e i q fun _ _ => .f [] [] 2 e i q fun y483 _ => .q e (.q e (.a e e (.E e e (.n [0,1,2] [] [0,1] [] [10000000,10000001,10000002,10000064])) (.a e e (.E e e (.n [0,1,2] [] [0,1] [] [10000000,10000001,10000002,10000064])) (.j e (fun _ => [(1,.ptr 0 0),(2,.ptr 1 0),(7,.ptr 2 0)]) (fun _ => [(0,.box [RO 141 (x1.Files.map encFile)]),(1,.box [.sl 3 3 0 (([] : (List Int)).length),VI 0,VI 0,VI 0,.sl 4 3 0 (([] : (List Int)).length),.sl 5 148 0 (([] : (List Spot)).length),VI 0]),(2,.box [.sl 6 3 0 y483.1.Segs.length,VI y483.1.Next,VI y483.1.Base,VI y483.1.BaseTerm,.sl 7 3 0 y483.1.Conf.length]),(3,.vec 3 (([] : (List Int)).map encI)),(4,.vec 3 (([] : (List Int)).map encI)),(5,.vec 148 (([] : (List Spot)).map encSpot)),(6,.vec 3 (y483.1.Segs.map encI)),(7,.vec 3 (y483.1.Conf.map encI))]) (fun _ => .L1 e (fun x540 => [(1,.ptr 0 0),(2,.ptr 1 0),(7,.ptr 2 0),(49,.sl 3 3 0 y483.1.Segs.length),(50,VI ((y483.1.Segs.length : Nat) : Int)),(51,VI x540)]) (fun x540 => [(0,.box [RO 141 (x1.Files.map encFile)]),(1,.box [.sl 4 3 0 (([] : (List Int)).length),VI 0,VI 0,VI 0,.sl 5 3 0 (([] : (List Int)).length),.sl 6 148 0 (([] : (List Spot)).length),VI 0]),(2,.box [.sl 3 3 0 y483.1.Segs.length,VI y483.1.Next,VI y483.1.Base,VI y483.1.BaseTerm,.sl 7 3 0 y483.1.Conf.length]),(3,.vec 3 (y483.1.Segs.map encI)),(4,.vec 3 (([] : (List Int)).map encI)),(5,.vec 3 (([] : (List Int)).map encI)),(6,.vec 148 (([] : (List Spot)).map encSpot)),(7,.vec 3 (y483.1.Conf.map encI))]) (.n [1,2,7,49,50,51] [1000,1016,17464,17400,17401] [] [1016] [1000,1016,17464,17400,20000000,20000001,20000002,17401]) fun _ x540 _ hk570 => .q e (.a e e (.q e (.B fun _ hx577 => .st e (Ev.iaW e e e hx577) e (.st e (Ev.ldE (f := encI) e e (at_some hx577).2 e e e) e (.c0 e i q fun _ _ => .c0 e i q fun _ _ => .dn e (.a e e (.Xr hk570 e e (.il (.e e (.E e e (.n [0,1,2] [] [0,1] [] [10000000,10000001,10000002,10000064]))))) (.R e (fun h => ⟨_,h,e,e⟩) (.k [1,2,7,49,50,51] [0,1,2,3,4,5,6,7]))))))) (.X hk570 e e (.ir (.n e (.J e (.k [1,2,7] [0,1,2,4,5,6,3,7]))))))) fun _ => .f (hp := (.cons (.agg (.d1 .nil)) (.cons (.agg (.cons (.borrow e (by decide) (lendW (fun _ => e) _ e)) (.d2 (.d1 (.cons (.borrow e (by decide) (lendW (fun _ => e) _ e)) .nil))))) .nil))) (hcase := fun _ => (.inr ⟨rfl,ownL_root ⟨own_rows (fun _ => e) _,trivial⟩⟩)) [] [6,7] 1 e i q fun _ _ => .j e (fun v712 => [(2,.ptr 0 0),(13,.ptr 1 0),(14,.sl 2 138 0 v712.2.1.length),(15,.sl 3 148 0 v712.2.2.length)]) (fun v712 => [(0,.box [.sl 4 3 0 (([] : (List Int)).length),VI 0,VI 0,VI 0,.sl 5 3 0 (([] : (List Int)).length),.sl 6 148 0 (([] : (List Spot)).length),VI 0]),(1,.box [.sl 7 3 0 y483.1.Segs.length,VI y483.1.Next,VI y483.1.Base,VI y483.1.BaseTerm,.sl 8 3 0 y483.1.Conf.length,.sl 9 148 0 (([] : (List Spot)).length),VI v712.1]),(2,.vec 138 (v712.2.1.map encRaw)),(3,.vec 148 (v712.2.2.map encSpot)),(4,.vec 3 (([] : (List Int)).map encI)),(5,.vec 3 (([] : (List Int)).map encI)),(6,.vec 148 (([] : (List Spot)).map encSpot)),(7,.vec 3 (y483.1.Segs.map encI)),(8,.vec 3 (y483.1.Conf.map encI)),(9,.vec 148 (([] : (List Spot)).map encSpot))]) (fun _ => .L4 e (fun x714 x726 x727 x728 => [(1,.ptr 0 0),(2,.ptr 1 0),(7,.ptr 2 0),(13,.ptr 3 0),(14,.sl 4 138 0 x727.length),(15,.sl 5 148 0 x728.length),(74,.sl 6 3 0 y483.1.Segs.length),(75,VI ((y483.1.Segs.length : Nat) : Int)),(76,VI x714)]) (fun x714 x726 x727 x728 => [(0,.box [RO 141 (x1.Files.map encFile)]),(1,.box [.sl 7 3 0 (([] : (List Int)).length),VI 0,VI 0,VI 0,.sl 8 3 0 (([] : (List Int)).length),.sl 9 148 0 (([] : (List Spot)).length),VI 0]),(2,.box [.sl 6 3 0 y483.1.Segs.length,VI y483.1.Next,VI y483.1.Base,VI y483.1.BaseTerm,.sl 10 3 0 y483.1.Conf.length]),(3,.box [.sl 6 3 0 y483.1.Segs.length,VI y483.1.Next,VI y483.1.Base,VI y483.1.BaseTerm,.sl 10 3 0 y483.1.Conf.length,.sl 11 148 0 (([] : (List Spot)).length),VI x726]),(4,.vec 138 (x727.map encRaw)),(5,.vec 148 (x728.map encSpot)),(6,.vec 3 (y483.1.Segs.map encI)),(7,.vec 3 (([] : (List Int)).map encI)),(8,.vec 3 (([] : (List Int)).map encI)),(9,.vec 148 (([] : (List Spot)).map encSpot)),(10,.vec 3 (y483.1.Conf.map encI)),(11,.vec 148 (([] : (List Spot)).map encSpot))]) (.n [1,2,7,13,14,15,74,75,76] [0,1,2,58408,62472,6,3,4,5,7] [15] [58408] [0,1,2,58408,62472,10000000,6,3,4,5,7,20000000]) fun _ x714 x726 x727 x728 _ hk784 => .q e (.a e e (.q e (.B fun x791 hx791 => .st e (Ev.iaW e e e hx791) e (.st e (Ev.ldE (f := encI) e e (at_some hx791).2 e e e) e (.c0 e i q fun _ _ => .c0 e i q fun y799 _ => .dn e (.f [] [] 2 e i q fun y803 _ => .c1 e i q fun y807 _ => .j e (fun _ => [(1,.ptr 0 0),(2,.ptr 1 0),(7,.ptr 2 0),(13,.ptr 3 0),(14,.sl 4 138 0 x727.length),(15,.sl 5 148 0 x728.length),(17,VI x791),(18,VS y799.1),(20,.sl 6 148 0 y803.1.length),(22,VI y803.2.2),(24,VI y807.2),(74,.sl 7 3 0 y483.1.Segs.length),(75,VI ((y483.1.Segs.length : Nat) : Int)),(76,VI x714)]) (fun _ => [(0,.box [RO 141 (x1.Files.map encFile)]),(1,.box [.sl 8 3 0 (([] : (List Int)).length),VI 0,VI 0,VI 0,.sl 9 3 0 (([] : (List Int)).length),.sl 10 148 0 (([] : (List Spot)).length),VI 0]),(2,.box [.sl 7 3 0 y483.1.Segs.length,VI y483.1.Next,VI y483.1.Base,VI y483.1.BaseTerm,.sl 11 3 0 y483.1.Conf.length]),(3,.box [.sl 7 3 0 y483.1.Segs.length,VI y483.1.Next,VI y483.1.Base,VI y483.1.BaseTerm,.sl 11 3 0 y483.1.Conf.length,.sl 12 148 0 (([] : (List Spot)).length),VI x726]),(4,.vec 138 (x727.map encRaw)),(5,.vec 148 (x728.map encSpot)),(6,.vec 148 (y803.1.map encSpot)),(7,.vec 3 (y483.1.Segs.map encI)),(8,.vec 3 (([] : (List Int)).map encI)),(9,.vec 3 (([] : (List Int)).map encI)),(10,.vec 148 (([] : (List Spot)).map encSpot)),(11,.vec 3 (y483.1.Conf.map encI)),(12,.vec 148 (([] : (List Spot)).map encSpot))]) (fun _ => .q e (.a e e (.a e e (.Xr hk784 e e (.il (.e e (.E e e (.n [0,1,2] [] [0,1] [] [10000000,10000001,10000002,10000064]))))) (.J e (.k [1,2,7,13,14,15,17,18,20,22,24,74,75,76] [0,1,2,3,4,5,87048,6,7,8,9,10,11]))) (.J e (.k [1,2,7,13,14,15,17,18,20,22,24,74,75,76] [0,1,2,3,4,5,87048,6,7,8,9,10,11])))) fun _ => .j e (fun v822 => [(1,.ptr 0 0),(2,.ptr 1 0),(7,.ptr 2 0),(13,.ptr 3 0),(14,.sl 4 138 0 v822.length),(15,.sl 5 148 0 x728.length),(20,.sl 6 148 0 y803.1.length),(22,VI y803.2.2),(74,.sl 7 3 0 y483.1.Segs.length),(75,VI ((y483.1.Segs.length : Nat) : Int)),(76,VI x714)]) (fun v822 => [(0,.box [RO 141 (x1.Files.map encFile)]),(1,.box [.sl 8 3 0 (([] : (List Int)).length),VI 0,VI 0,VI 0,.sl 9 3 0 (([] : (List Int)).length),.sl 10 148 0 (([] : (List Spot)).length),VI 0]),(2,.box [.sl 7 3 0 y483.1.Segs.length,VI y483.1.Next,VI y483.1.Base,VI y483.1.BaseTerm,.sl 11 3 0 y483.1.Conf.length]),(3,.box [.sl 7 3 0 y483.1.Segs.length,VI y483.1.Next,VI y483.1.Base,VI y483.1.BaseTerm,.sl 11 3 0 y483.1.Conf.length,.sl 12 148 0 (([] : (List Spot)).length),VI x726]),(4,.vec 138 (v822.map encRaw)),(5,.vec 148 (x728.map encSpot)),(6,.vec 148 (y803.1.map encSpot)),(7,.vec 3 (y483.1.Segs.map encI)),(8,.vec 3 (([] : (List Int)).map encI)),(9,.vec 3 (([] : (List Int)).map encI)),(10,.vec 148 (([] : (List Spot)).map encSpot)),(11,.vec 3 (y483.1.Conf.map encI)),(12,.vec 148 (([] : (List Spot)).map encSpot))]) (fun _ => .a e e (.c0 e i q fun y827 _ => .B fun x828 hx828 => .st e (Ev.ssH e e hx828) e (.st e (Ev.bsW (ys := ([(Raw.mk 1 y827 (⟨#[]⟩ : ByteArray) x828)] : List Raw)) (f := encRaw) e (.d4 .nil) e e e e e) e (.B fun _ hx829 => .st e (Ev.apW (f := encRaw) (ontoW e e e) (addsW e e e (fun _ => e)) e bt138 e hx829) e (.dn e (.J e (.k [1,2,7,13,14,15,20,22,74,75,76] [0,1,2,3,107624,5,6,7,8,9,10,11,12])))))) (.J e (.k [1,2,7,13,14,15,20,22,74,75,76] [0,1,2,3,4,5,6,7,8,9,10,11,12]))) fun v822 => .B fun _ hx833 => .st e (Ev.apW (f := encSpot) (ontoW e e e) (addsW e e e (fun _ => e)) e bt148 e hx833) e (.R e (fun h => ⟨_,_,_,_,h,e,e⟩) (.k [1,2,7,13,14,15,74,75,76] [0,1,2,3,4,111624,7,8,9,10,11,12]))))))) (.X hk784 e e (.ir (.n e (.J e (.k [2,13,14,15] [1,3,4,5,7,8,9,6,10,11]))))))) fun v712 => .f (hp := (.cons (.nil _ _) (.cons (.borrow e (by decide) (lendW (fun _ => e) _ e)) .nil))) (hcase := fun _ => (.inr ⟨rfl,ownL_root ⟨own_rows (fun _ => e) _,trivial⟩⟩)) [] [3] 1 e i q fun _ _ => .q e (.a e e (.E e e (.n [0,1,2] [] [0,1] [] [10000000,10000001,10000002,10000064])) (.Ek [7,8,123896,2] e e e))))))))
def impl_ShelfMap_l1 (N : Nat) (x1 : Disk) (x2 : Shelf) : Nat → Int → (List Pair) → Option (((List Pair) × Bool) ⊕ ((List Pair)))
 | 0,_,_ => none
 | m + 1,x276,x278 =>
 (if (decide (x276 < (x2.Dir.length : Int))) = true then
 (at? x2.Dir x276).bind fun x307 =>
 (impl_SegName N x307.Seg).bind fun y314 =>
 (impl_FileAt N x1 y314).bind fun y315 =>
 (if (decide ((w64 (x307.At + x307.Size)) > (y315.1.size : Int))) = true then
 some (Sum.inl ([],false))
 else
 (scut? y315.1 x307.At (w64 (x307.At + x307.Size))).bind fun x320 =>
 (cat? x278 ([(Pair.mk x307.Key x320)] : List Pair)).bind fun x321 =>
 impl_ShelfMap_l1 N x1 x2 m (w64 (x276 + 1)) x321)
 else
 some (Sum.inr x278))
def impl_ShelfMap (N : Nat) (x1 : Disk) (x2 : Shelf) : Option ((List Pair) × Bool) :=
 (impl_DiskOk N x1).bind fun y221 =>
 (if (!y221) = true then
 some ([],false)
 else
 (impl_DirOk N x2.Dir).bind fun y223 =>
 (if (!y223) = true then
 some ([],false)
 else
 joinP (fun (v273 : (List Pair)) =>
 some (v273,true)) fun j273 =>
 (impl_ShelfMap_l1 N x1 x2 N 0 ([] : (List Pair))).bind (Sum.elim (fun v299 => some v299) (fun (v300 : (List Pair)) => j273 v300))))
instance i176 (N : Nat) (x1 : Disk) (x2 : Shelf) : Sem Tryz.prog 32 (impl_ShelfMap N x1 x2) [.agg [RO 141 (x1.Files.map encFile)],.agg [RO 3 (x2.Man.Segs.map encI),VI x2.Man.Next,VI x2.Man.Base,VI x2.Man.BaseTerm,RO 3 (x2.Man.Conf.map encI),RO 148 (x2.Dir.map encSpot),VI x2.Stamp]] 0 [] (fun r => .tup [.sl 0 79 0 r.1.length,VB r.2]) (fun r => [(0,.vec 79 (r.1.map encPair))]) := .st e e Tryz.call32 fun B r => .q e (.q e (.c0 e i q fun _ _ => .a e e (.E e e (.n [0,1] [] [0] [] [10000000])) (.c0 e i q fun _ _ => .a e e (.E e e (.n [0,1] [] [0] [] [10000000])) (.j e (fun v273 => [(6,.sl 0 79 0 v273.length)]) (fun v273 => [(0,.vec 79 (v273.map encPair))]) (fun _ => .st e (Ev.lnF e) e (.L2 e (fun x276 x278 => [(2,.ptr 0 0),(6,.sl 1 79 0 x278.length),(21,RO 148 (x2.Dir.map encSpot)),(22,VI (x2.Dir.length : Int)),(23,VI x276)]) (fun x276 x278 => [(0,.box [RO 141 (x1.Files.map encFile)]),(1,.vec 79 (x278.map encPair))]) (.n [2,6,21,22,23] [1000] [6] [] [1000,10000000]) fun _ x276 x278 _ hk300 => .q e (.a e e (.q e (.B fun x307 hx307 => .st e (Ev.iaF e e hx307) e (.c0 e i q fun _ _ => .c0 e i q fun _ _ => .dn e (.q e (.a e e (.Xr hk300 e e (.il (.e e (.E e e (.n [0,1] [] [0] [] [10000000]))))) (.B fun x320 hx320 => .st e (Ev.ssB e e e hx320) e (.st e (Ev.bsW (ys := ([(Pair.mk x307.Key x320)] : List Pair)) (f := encPair) e (.d2 .nil) e e e e e) e (.B fun _ hx321 => .st e (Ev.apW (f := encPair) (ontoW e e e) (addsW e e e (fun _ => e)) e bt79 e hx321) e (.dn e (.R e (fun h => ⟨_,_,h,e,e⟩) (.k [2,6,21,22,23] [0,42184]))))))))))) (.X hk300 e e (.ir (.n e (.J e (.k [6] [1])))))))) fun v273 => .Ek [0] e e e))))
def impl_Fold_1 (N : Nat) (x1 : Applied) (x2 : Int) : Option (Bool) :=
 some (x1.Index == x2)
instance i177 (N : Nat) (x1 : Applied) (x2 : Int) : Sem Tryz.prog 80 (impl_Fold_1 N x1 x2) [.agg [VI x1.Node,VI x1.Term,VI x1.Index,VI x1.Entry.Term,VI x1.Entry.Kind,VS x1.Entry.Data],.ptr 0 0] 1 [(0,.box [VI x2])] (fun r => VB r) (fun r => [(0,.box [VI x2])]) := .st e e Tryz.call80 fun B r => .Ek [0] e e e
def slices_IndexFunc_Applied_l1 (N : Nat) (x1 : (List Applied)) (x2 : Int) : Nat → Int → Option ((Int) ⊕ (Unit))
 | 0,_ => none
 | m + 1,x167 =>
 (if (decide (x167 < (x1.length : Int))) = true then
 (at? x1 x167).bind fun x183 =>
 (impl_Fold_1 N x183 x2).bind fun y184 =>
 (if y184 = true then
 some (Sum.inl x167)
 else
 slices_IndexFunc_Applied_l1 N x1 x2 m (w64 (x167 + 1)))
 else
 some (Sum.inr ()))
def slices_IndexFunc_Applied_l1_r (N : Nat) (x1 : (List Applied)) (x2 : Int) : (List Applied) → Int → Option ((Int) ⊕ (Unit))
 | [],x167 =>
 some (Sum.inr ())
 | hd :: tl,x167 =>
 (some hd).bind fun x183 =>
 (impl_Fold_1 N x183 x2).bind fun y184 =>
 (if y184 = true then
 some (Sum.inl x167)
 else
 slices_IndexFunc_Applied_l1_r N x1 x2 tl (w64 (x167 + 1)))
theorem slices_IndexFunc_Applied_l1_rng (N : Nat) (x1 : (List Applied)) (x2 : Int) (hx : x1.length ≤ 1099511627776) : ∀ (d k m : Nat),x1.length = k + d → d < m → slices_IndexFunc_Applied_l1 N x1 x2 m (k : Int) = slices_IndexFunc_Applied_l1_r N x1 x2 (x1.drop k) (k : Int) := by
 intro d
 induction d with
 | zero =>
  intro k m hd hm
  obtain ⟨m,rfl⟩ : ∃ q,m = q + 1 := ⟨m - 1,by omega⟩
  rw [slices_IndexFunc_Applied_l1,if_neg (by simp; omega),List.drop_eq_nil_of_le (by omega),slices_IndexFunc_Applied_l1_r]
 | succ d ih =>
  intro k m hd hm
  obtain ⟨m,rfl⟩ : ∃ q,m = q + 1 := ⟨m - 1,by omega⟩
  have hk : k < x1.length := by omega
  rw [slices_IndexFunc_Applied_l1,if_pos (by simp; omega),List.drop_eq_getElem_cons hk,slices_IndexFunc_Applied_l1_r]
  have h1 := at_lt hk
  have h2 := w64_succ (k := k) (by omega)
  have h3 := ih (k + 1) m
  simp only [h1,h2,h3 (by omega) (by omega)]
theorem slices_IndexFunc_Applied_l1_eq {N : Nat} (x1 : (List Applied)) (x2 : Int) (hx : x1.length ≤ 1099511627776) (hN : x1.length < N) : slices_IndexFunc_Applied_l1 N x1 x2 N 0 = slices_IndexFunc_Applied_l1_r N x1 x2 x1 0 := slices_IndexFunc_Applied_l1_rng N x1 x2 hx x1.length 0 N (by omega) hN
def slices_IndexFunc_Applied (N : Nat) (x1 : (List Applied)) (x2 : Int) : Option (Int) :=
 joinP (fun (v164 : Unit) =>
 some (-1 : Int)) fun j164 =>
 (slices_IndexFunc_Applied_l1 N x1 x2 N 0).bind (Sum.elim (fun v176 => some v176) (fun (v177 : Unit) => j164 ()))
instance i178 (N : Nat) (x1 : (List Applied)) (x2 : Int) : Sem Tryz.prog 79 (slices_IndexFunc_Applied N x1 x2) [RO 102 (x1.map encApplied),.fn 80 [.ptr 0 0]] 1 [(0,.box [VI x2])] (fun r => VI r) (fun r => [(0,.box [VI x2])]) := .st e e Tryz.call79 fun B r => .j e (fun _ => []) (fun _ => [(0,.box [VI x2])]) (fun _ => .st e (Ev.lnF e) e (.L1 e (fun x167 => [(0,RO 102 (x1.map encApplied)),(1,.fn 80 [.ptr 0 0]),(7,VI (x1.length : Int)),(8,VI x167)]) (fun x167 => [(0,.box [VI x2])]) (.k [0,1,7,8] [0]) fun _ x167 _ hk177 => .q e (.a e e (.q e (.B fun _ hx183 => .st e (Ev.iaF e e hx183) e (.B fun _ hy184 => .st e (Ev.callx [0] [] 0 e (sy hy184) e e (.cons (.agg (.d4 (.d2 .nil))) (.cons (.ptr e) .nil)) e (.inl e) e e) e (.a e e (.Xr hk177 e e (.il (.e e (.Ek [0] e e e)))) (.R e (fun h => ⟨_,h,e,e⟩) (.k [0,1,7,8] [0])))))) (.X hk177 e e (.ir (.n e (.J e (.k [] [0])))))))) fun _ => .Ek [0] e e e
def impl_CommandOk (N : Nat) (x1 : Command) : Option (Bool) :=
 joinP (fun (v130 : Bool × Bool) =>
 (impl_within N x1.Session 0 100000).bind fun y143 =>
 (if y143 = true then
 (impl_within N x1.Seq 0 100000).bind fun y145 =>
 (if y145 = true then
 (impl_within N (x1.Key.size : Int) 1 9).bind fun y147 =>
 (if y147 = true then
 (if v130.1 = true then
 some v130.2
 else
 some false)
 else
 some false)
 else
 some false)
 else
 some false)) fun j130 =>
 (if (x1.Op == 1) = true then
 some (((x1.Op == 1) && ((x1.Session == 0) && ((x1.Seq == 0) && (decide (x1.Key = (⟨#[]⟩ : ByteArray)) && (decide (x1.Value = (⟨#[]⟩ : ByteArray)) && (decide (x1.Old = (⟨#[]⟩ : ByteArray)) && true)))))) ^^ false)
 else
 (if (x1.Op == 2) = true then
 j130 (decide (x1.Value = (⟨#[]⟩ : ByteArray)),decide (x1.Old = (⟨#[]⟩ : ByteArray)))
 else
 (if (x1.Op == 4) = true then
 j130 (decide (x1.Value = (⟨#[]⟩ : ByteArray)),decide (x1.Old = (⟨#[]⟩ : ByteArray)))
 else
 (if (x1.Op == 3) = true then
 j130 (decide ((x1.Value.size : Int) ≤ 12),decide (x1.Old = (⟨#[]⟩ : ByteArray)))
 else
 (if (x1.Op == 5) = true then
 j130 (decide ((x1.Value.size : Int) ≤ 12),decide ((x1.Old.size : Int) ≤ 12))
 else
 some false)))))
instance i179 (N : Nat) (x1 : Command) : Sem Tryz.prog 212 (impl_CommandOk N x1) [.agg [VI x1.Op,VI x1.Session,VI x1.Seq,VS x1.Key,VS x1.Value,VS x1.Old]] 0 [] (fun r => VB r) (fun r => []) := .so s212 e Tryz.call212 fun B r => .dn e (.j e (fun v130 => [(1,.ptr 0 0),(3,VB v130.1),(4,VB v130.2)]) (fun v130 => [(0,.box [VI x1.Op,VI x1.Session,VI x1.Seq,VS x1.Key,VS x1.Value,VS x1.Old])]) (fun _ => .a e e (.Ek [] e e e) (.q e (.a e e (.dn e (.J e (.k [1,3,4] [1000]))) (.a e e (.dn e (.J e (.k [1,3,4] [1000]))) (.a e e (.J e (.k [1,3,4] [1000])) (.a e e (.J e (.k [1,3,4] [1000])) (.Ek [] e e e))))))) fun v130 => .q e (.c0 e i q fun _ _ => .a e e (.c0 e i q fun _ _ => .a e e (.c0 e i q fun _ _ => .a e e (.a e e (.Ek [] e e e) (.Ek [] e e e)) (.Ek [] e e e)) (.Ek [] e e e)) (.Ek [] e e e)))
def impl_ReadCommand (N : Nat) (x1 : ByteArray) : Option (Command × Bool) :=
 (reader_byte N (Treader.mk x1 0 false)).bind fun y141 =>
 (reader_num N y141.2).bind fun y145 =>
 (reader_num N y145.2).bind fun y149 =>
 (reader_text N y149.2).bind fun y153 =>
 (reader_text N y153.2).bind fun y157 =>
 (reader_text N y157.2).bind fun y161 =>
 (reader_done N y161.2).bind fun y172 =>
 (if (!y172) = true then
 some ((Command.mk 0 0 0 (⟨#[]⟩ : ByteArray) (⟨#[]⟩ : ByteArray) (⟨#[]⟩ : ByteArray)),false)
 else
 (impl_CommandOk N (Command.mk y141.1 y145.1 y149.1 y153.1 y157.1 y161.1)).bind fun y174 =>
 (if (!y174) = true then
 some ((Command.mk 0 0 0 (⟨#[]⟩ : ByteArray) (⟨#[]⟩ : ByteArray) (⟨#[]⟩ : ByteArray)),false)
 else
 some ((Command.mk y141.1 y145.1 y149.1 y153.1 y157.1 y161.1),true)))
instance i180 (N : Nat) (x1 : ByteArray) : Sem Tryz.prog 147 (impl_ReadCommand N x1) [VS x1] 0 [] (fun r => .tup [.agg [VI r.1.Op,VI r.1.Session,VI r.1.Seq,VS r.1.Key,VS r.1.Value,VS r.1.Old],VB r.2]) (fun r => []) := .st e e Tryz.call147 fun B r => .f [5128] [] 0 e i q fun _ _ => .f [5128] [] 0 e i q fun _ _ => .f [5128] [] 0 e i q fun _ _ => .f [5128] [] 0 e i q fun _ _ => .f [5128] [] 0 e i q fun _ _ => .f [5128] [] 0 e i q fun _ _ => .q e (.q e (.f [5128] [] 0 e i q fun _ _ => .a e e (.Ek [] e e e) (.c0 e i q fun _ _ => .a e e (.Ek [] e e e) (.Ek [] e e e))))
def strings_Index (N : Nat) (x1 : ByteArray) (x2 : ByteArray) : Option (Int) := index1? x1 x2
instance i181 (N : Nat) (x1 : ByteArray) (x2 : ByteArray) : Sem Tryz.prog 300 (strings_Index N x1 x2) [VS x1,VS x2] 0 [] (fun r => VI r) (fun r => []) := ⟨fun r h => says_index1 Tryz.call300 Go.Proofs.Tryz.strings_Index_one h⟩
def strings_genSplit_l1 (N : Nat) (x1 : ByteArray) (x2 : ByteArray) (x3 : Int) (x4 : Int) : Nat → ByteArray → Int → (List ByteArray) → Option (ByteArray × Int × (List ByteArray))
 | 0,_,_,_ => none
 | m + 1,x272,x276,x277 =>
 (if (decide (x276 < (w64 ((imin x4 (w64 ((x1.size : Int) + 1))) - 1)))) = true then
 (strings_Index N x272 x2).bind fun y305 =>
 (if (decide (y305 < 0)) = true then
 some (x272,x276,x277)
 else
 (stake? x272 (w64 (y305 + x3))).bind fun x314 =>
 (at? x277 x276).bind fun x315 =>
 (sdrop? x272 (w64 (y305 + (x2.size : Int)))).bind fun x319 =>
 strings_genSplit_l1 N x1 x2 x3 x4 m x319 (w64 (x276 + 1)) (x277.set x276.toNat x314))
 else
 some (x272,x276,x277))
def strings_genSplit (N : Nat) (x1 : ByteArray) (x2 : ByteArray) (x3 : Int) (x4 : Int) : Option (Nat × (List ByteArray)) :=
 (if (x4 == 0) = true then
 some (0,[])
 else
 (if (decide (x2 = (⟨#[]⟩ : ByteArray))) = true then
 none
 else
 (if (decide (x4 < 0)) = true then
 none
 else
 (mk? (⟨#[]⟩ : ByteArray) (imin x4 (w64 ((x1.size : Int) + 1)))).bind fun x222 =>
 joinP (fun (v271 : ByteArray × Int × (List ByteArray)) =>
 (at? v271.2.2 v271.2.1).bind fun x323 =>
 (take? (v271.2.2.set v271.2.1.toNat v271.1) (w64 (v271.2.1 + 1))).bind fun x325 =>
 some ((w64 (v271.2.1 + 1)).toNat,(v271.2.2.set v271.2.1.toNat v271.1))) fun j271 =>
 (strings_genSplit_l1 N x1 x2 x3 x4 N x1 0 x222).bind (fun v298 => j271 (v298.1,v298.2.1,v298.2.2)))))
instance i182 (N : Nat) (x1 : ByteArray) (x2 : ByteArray) (x3 : Int) (x4 : Int) : Sem Tryz.prog 284 (strings_genSplit N x1 x2 x3 x4) [VS x1,VS x2,VI x3,VI x4] 0 [] (fun r => .sl 0 9 0 r.1) (fun r => [(0,.vec 9 (r.2.map encS))]) := .st e e Tryz.call284 fun B r => .q e (.a e e (.E e e (.n [0] [] [0] [] [10000000])) (.q e (.a e e .no (.q e (.a e e .no (.B fun _ hx222 => .st e (Ev.msW (f := encS) (zv := (⟨#[]⟩ : ByteArray)) e e e bt9 e hx222) e (.j e (fun v271 => [(0,VS v271.1),(9,.sl 0 9 0 v271.2.2.length),(10,VI v271.2.1)]) (fun v271 => [(0,.vec 9 (v271.2.2.map encS))]) (fun _ => .L3 e (fun x272 x276 x277 => [(0,VS x272),(1,VS x2),(2,VI x3),(3,VI (w64 ((imin x4 (w64 ((x1.size : Int) + 1))) - 1))),(9,.sl 0 9 0 x277.length),(10,VI x276)]) (fun x272 x276 x277 => [(0,.vec 9 (x277.map encS))]) (.k [0,1,2,3,9,10] [33784]) fun _ x272 x276 x277 _ hk298 => .q e (.a e e (.c0 e i q fun _ _ => .q e (.a e e (.X hk298 e e (.n e (.J e (.k [0,9,10] [0])))) (.B fun x314 hx314 => .st e (Ev.ssH e e hx314) e (.B fun _ hx315 => .st e (Ev.iaW e e e hx315) e (.st e (Ev.stE (f := encS) (v' := x314) e e (at_some hx315).2 e (.d1 .nil) e e e e e) e (.B fun _ hx319 => .st e (Ev.ssL e e hx319) e (.R e (fun h => ⟨_,_,_,h,e,e⟩) (.k [0,1,2,3,9,10] [0])))))))) (.X hk298 e e (.n e (.J e (.k [0,9,10] [0])))))) fun v271 => .B fun _ hx323 => .st e (Ev.iaW e e e hx323) e (.st e (Ev.stE (f := encS) (v' := v271.1) e e (at_some hx323).2 e (.d1 .nil) e e e e e) e (.B fun _ hx325 => .st e (Ev.slWh (xs := (v271.2.2.set v271.2.1.toNat v271.1)) e (by simp) e hx325) e (.Ek [0] e e e))))))))))
def strings_SplitN (N : Nat) (x1 : ByteArray) (x2 : ByteArray) (x3 : Int) : Option (Nat × (List ByteArray)) :=
 (strings_genSplit N x1 x2 0 x3).bind fun y103 =>
 some (y103.1,y103.2)
instance i183 (N : Nat) (x1 : ByteArray) (x2 : ByteArray) (x3 : Int) : Sem Tryz.prog 266 (strings_SplitN N x1 x2 x3) [VS x1,VS x2,VI x3] 0 [] (fun r => .sl 0 9 0 r.1) (fun r => [(0,.vec 9 (r.2.map encS))]) := .st e e Tryz.call266 fun B r => .c1 e i q fun _ _ => .Ek [5144] e e e
def impl_readSession (N : Nat) (x1 : Pair) : Option (Tsession × Bool × Bool) :=
 (strings_CutPrefix N x1.Key (⟨#[115]⟩ : ByteArray)).bind fun y143 =>
 (impl_ReadDecimal N y143.1).bind fun y147 =>
 (if (!y143.2) = true then
 some ((Tsession.mk 0 0 0 (⟨#[]⟩ : ByteArray)),false,(!y143.2))
 else
 (if (!y147.2) = true then
 some ((Tsession.mk 0 0 0 (⟨#[]⟩ : ByteArray)),false,(!y143.2))
 else
 (strings_SplitN N x1.Value (⟨#[32]⟩ : ByteArray) 3).bind fun y157 =>
 (if (decide (((y157.1 : Nat) : Int) < 3)) = true then
 some ((Tsession.mk 0 0 0 (⟨#[]⟩ : ByteArray)),true,false)
 else
 (at? (y157.2.take y157.1) 0).bind fun x166 =>
 (impl_ReadDecimal N x166).bind fun y167 =>
 (at? (y157.2.take y157.1) 1).bind fun x174 =>
 (impl_ReadDecimal N x174).bind fun y175 =>
 (at? (y157.2.take y157.1) 2).bind fun x178 =>
 (if y167.2 = true then
 some ((Tsession.mk y147.1 y167.1 y175.1 x178),true,y175.2)
 else
 some ((Tsession.mk y147.1 y167.1 y175.1 x178),true,false)))))
instance i184 (N : Nat) (x1 : Pair) : Sem Tryz.prog 247 (impl_readSession N x1) [.agg [VS x1.Key,VS x1.Value]] 0 [] (fun r => .tup [.agg [VI r.1.number,VI r.1.seq,VI r.1.index,VS r.1.reply],VB r.2.1,VB r.2.2]) (fun r => []) := .st e e Tryz.call247 fun B r => .c0 e i q fun _ _ => .c0 e i q fun _ _ => .q e (.q e (.a e e (.Ek [] e e e) (.a e e (.Ek [] e e e) (.c1 e i q fun y157 _ => .q e (.a e e (.Ek [] e e e) (.B fun _ hx166 => .st e (Ev.iaP (xs := y157.2) e e hx166) e (.st e (Ev.ldE (f := encS) e e (at_part hx166) e e e) e (.c0 e i q fun _ _ => .B fun _ hx174 => .st e (Ev.iaP (xs := y157.2) e e hx174) e (.st e (Ev.ldE (f := encS) e e (at_part hx174) e e e) e (.c0 e i q fun _ _ => .q e (.B fun _ hx178 => .st e (Ev.iaP (xs := y157.2) e e hx178) e (.st e (Ev.ldE (f := encS) e e (at_part hx178) e e e) e (.a e e (.Ek [] e e e) (.Ek [] e e e))))))))))))))
def impl_sessionsOf_l1 (N : Nat) (x1 : (List Pair)) : Nat → Int → (List Tsession) → Option (((List Tsession) × Bool) ⊕ ((List Tsession)))
 | 0,_,_ => none
 | m + 1,x215,x216 =>
 (if (decide (x215 < (x1.length : Int))) = true then
 (at? x1 x215).bind fun x240 =>
 (impl_readSession N x240).bind fun y244 =>
 (if (!y244.2.2) = true then
 some (Sum.inl ([],false))
 else
 (if y244.2.1 = true then
 (cat? x216 ([y244.1] : List Tsession)).bind fun x249 =>
 impl_sessionsOf_l1 N x1 m (w64 (x215 + 1)) x249
 else
 impl_sessionsOf_l1 N x1 m (w64 (x215 + 1)) x216))
 else
 some (Sum.inr x216))
def impl_sessionsOf_l1_r (N : Nat) (x1 : (List Pair)) : (List Pair) → Int → (List Tsession) → Option (((List Tsession) × Bool) ⊕ ((List Tsession)))
 | [],x215,x216 =>
 some (Sum.inr x216)
 | hd :: tl,x215,x216 =>
 (some hd).bind fun x240 =>
 (impl_readSession N x240).bind fun y244 =>
 (if (!y244.2.2) = true then
 some (Sum.inl ([],false))
 else
 (if y244.2.1 = true then
 (cat? x216 ([y244.1] : List Tsession)).bind fun x249 =>
 impl_sessionsOf_l1_r N x1 tl (w64 (x215 + 1)) x249
 else
 impl_sessionsOf_l1_r N x1 tl (w64 (x215 + 1)) x216))
theorem impl_sessionsOf_l1_rng (N : Nat) (x1 : (List Pair)) (hx : x1.length ≤ 1099511627776) : ∀ (d k m : Nat) (x216 : (List Tsession)),x1.length = k + d → d < m → impl_sessionsOf_l1 N x1 m (k : Int) x216 = impl_sessionsOf_l1_r N x1 (x1.drop k) (k : Int) x216 := by
 intro d
 induction d with
 | zero =>
  intro k m x216 hd hm
  obtain ⟨m,rfl⟩ : ∃ q,m = q + 1 := ⟨m - 1,by omega⟩
  rw [impl_sessionsOf_l1,if_neg (by simp; omega),List.drop_eq_nil_of_le (by omega),impl_sessionsOf_l1_r]
 | succ d ih =>
  intro k m x216 hd hm
  obtain ⟨m,rfl⟩ : ∃ q,m = q + 1 := ⟨m - 1,by omega⟩
  have hk : k < x1.length := by omega
  rw [impl_sessionsOf_l1,if_pos (by simp; omega),List.drop_eq_getElem_cons hk,impl_sessionsOf_l1_r]
  have h1 := at_lt hk
  have h2 := w64_succ (k := k) (by omega)
  have h3 := ih (k + 1) m
  simp only [h1,h2,h3 _ (by omega) (by omega)]
theorem impl_sessionsOf_l1_eq {N : Nat} (x1 : (List Pair)) (hx : x1.length ≤ 1099511627776) (hN : x1.length < N) (x216 : (List Tsession)) : impl_sessionsOf_l1 N x1 N 0 x216 = impl_sessionsOf_l1_r N x1 x1 0 x216 := impl_sessionsOf_l1_rng N x1 hx x1.length 0 N x216 (by omega) hN
def impl_sessionsOf (N : Nat) (x1 : (List Pair)) : Option ((List Tsession) × Bool) :=
 joinP (fun (v212 : (List Tsession)) =>
 some (v212,true)) fun j212 =>
 (impl_sessionsOf_l1 N x1 N 0 ([] : (List Tsession))).bind (Sum.elim (fun v232 => some v232) (fun (v233 : (List Tsession)) => j212 v233))
instance i185 (N : Nat) (x1 : (List Pair)) : Sem Tryz.prog 213 (impl_sessionsOf N x1) [RO 79 (x1.map encPair)] 0 [] (fun r => .tup [.sl 0 341 0 r.1.length,VB r.2]) (fun r => [(0,.vec 341 (r.1.map encTsession))]) := .st e e Tryz.call213 fun B r => .j e (fun v212 => [(4,.sl 0 341 0 v212.length)]) (fun v212 => [(0,.vec 341 (v212.map encTsession))]) (fun _ => .st e (Ev.lnF e) e (.L2 e (fun x215 x216 => [(4,.sl 0 341 0 x216.length),(10,RO 79 (x1.map encPair)),(11,VI (x1.length : Int)),(12,VI x215)]) (fun x215 x216 => [(0,.vec 341 (x216.map encTsession))]) (.n [4,10,11,12] [] [4] [] [10000000]) fun _ x215 x216 _ hk233 => .q e (.a e e (.q e (.B fun _ hx240 => .st e (Ev.iaF e e hx240) e (.c0 e i q fun y244 _ => .q e (.a e e (.Xr hk233 e e (.il (.e e (.E e e (.n [0,1] [] [0] [] [10000000]))))) (.a e e (.st e (Ev.bsW (ys := ([y244.1] : List Tsession)) (f := encTsession) e (.d4 .nil) e e e e e) e (.B fun _ hx249 => .st e (Ev.apW (f := encTsession) (ontoW e e e) (addsW e e e (fun _ => e)) e bt341 e hx249) e (.R e (fun h => ⟨_,_,h,e,e⟩) (.k [4,10,11,12] [37912])))) (.R e (fun h => ⟨_,_,h,e,e⟩) (.k [4,10,11,12] [0]))))))) (.X hk233 e e (.ir (.n e (.J e (.k [4] [0])))))))) fun v212 => .Ek [0] e e e
def impl_MapOk_l1 (N : Nat) (x1 : (List Pair)) : Nat → Int → Option ((Bool) ⊕ (Unit))
 | 0,_ => none
 | m + 1,x228 =>
 (if (decide (x228 < (x1.length : Int))) = true then
 (at? x1 x228).bind fun x254 =>
 (impl_keyOk N x254.Key).bind fun y260 =>
 (if (!y260) = true then
 some (Sum.inl false)
 else
 (if (decide ((x254.Value.size : Int) > 40)) = true then
 some (Sum.inl false)
 else
 (if (decide (x228 > 0)) = true then
 (at? x1 (w64 (x228 - 1))).bind fun x264 =>
 (if (!Op.bytesLess x264.Key.toList x254.Key.toList) = true then
 some (Sum.inl false)
 else
 impl_MapOk_l1 N x1 m (w64 (x228 + 1)))
 else
 impl_MapOk_l1 N x1 m (w64 (x228 + 1)))))
 else
 some (Sum.inr ()))
def impl_MapOk_l1_r (N : Nat) (x1 : (List Pair)) : (List Pair) → Int → Option ((Bool) ⊕ (Unit))
 | [],x228 =>
 some (Sum.inr ())
 | hd :: tl,x228 =>
 (some hd).bind fun x254 =>
 (impl_keyOk N x254.Key).bind fun y260 =>
 (if (!y260) = true then
 some (Sum.inl false)
 else
 (if (decide ((x254.Value.size : Int) > 40)) = true then
 some (Sum.inl false)
 else
 (if (decide (x228 > 0)) = true then
 (at? x1 (w64 (x228 - 1))).bind fun x264 =>
 (if (!Op.bytesLess x264.Key.toList x254.Key.toList) = true then
 some (Sum.inl false)
 else
 impl_MapOk_l1_r N x1 tl (w64 (x228 + 1)))
 else
 impl_MapOk_l1_r N x1 tl (w64 (x228 + 1)))))
theorem impl_MapOk_l1_rng (N : Nat) (x1 : (List Pair)) (hx : x1.length ≤ 1099511627776) : ∀ (d k m : Nat),x1.length = k + d → d < m → impl_MapOk_l1 N x1 m (k : Int) = impl_MapOk_l1_r N x1 (x1.drop k) (k : Int) := by
 intro d
 induction d with
 | zero =>
  intro k m hd hm
  obtain ⟨m,rfl⟩ : ∃ q,m = q + 1 := ⟨m - 1,by omega⟩
  rw [impl_MapOk_l1,if_neg (by simp; omega),List.drop_eq_nil_of_le (by omega),impl_MapOk_l1_r]
 | succ d ih =>
  intro k m hd hm
  obtain ⟨m,rfl⟩ : ∃ q,m = q + 1 := ⟨m - 1,by omega⟩
  have hk : k < x1.length := by omega
  rw [impl_MapOk_l1,if_pos (by simp; omega),List.drop_eq_getElem_cons hk,impl_MapOk_l1_r]
  have h1 := at_lt hk
  have h2 := w64_succ (k := k) (by omega)
  have h3 := ih (k + 1) m
  simp only [h1,h2,h3 (by omega) (by omega)]
theorem impl_MapOk_l1_eq {N : Nat} (x1 : (List Pair)) (hx : x1.length ≤ 1099511627776) (hN : x1.length < N) : impl_MapOk_l1 N x1 N 0 = impl_MapOk_l1_r N x1 x1 0 := impl_MapOk_l1_rng N x1 hx x1.length 0 N (by omega) hN
def impl_MapOk (N : Nat) (x1 : (List Pair)) : Option (Bool) :=
 joinP (fun (v224 : Unit) =>
 some (decide ((x1.length : Int) ≤ 60))) fun j224 =>
 (impl_MapOk_l1 N x1 N 0).bind (Sum.elim (fun v246 => some v246) (fun (v247 : Unit) => j224 ()))
instance i186 (N : Nat) (x1 : (List Pair)) : Sem Tryz.prog 214 (impl_MapOk N x1) [RO 79 (x1.map encPair)] 0 [] (fun r => VB r) (fun r => []) := .st e e Tryz.call214 fun B r => .j e (fun _ => [(0,RO 79 (x1.map encPair))]) (fun _ => []) (fun _ => .st e (Ev.lnF e) e (.L1 e (fun x228 => [(0,RO 79 (x1.map encPair)),(5,RO 79 (x1.map encPair)),(6,VI (x1.length : Int)),(7,VI x228)]) (fun x228 => []) (.k [0,5,6,7] []) fun _ x228 _ hk247 => .q e (.a e e (.q e (.B fun _ hx254 => .st e (Ev.iaF e e hx254) e (.q e (.c0 e i q fun _ _ => .a e e (.dn e (.Xr hk247 e e (.il (.e e (.Ek [] e e e))))) (.a e e (.dn e (.Xr hk247 e e (.il (.e e (.Ek [] e e e))))) (.a e e (.B fun _ hx264 => .st e (Ev.iaF e e hx264) e (.dn e (.a e e (.Xr hk247 e e (.il (.e e (.Ek [] e e e)))) (.R e (fun h => ⟨_,h,e,e⟩) (.k [0,5,6,7] []))))) (.dn e (.R e (fun h => ⟨_,h,e,e⟩) (.k [0,5,6,7] []))))))))) (.X hk247 e e (.ir (.n e (.J e (.k [0] [])))))))) fun _ => .st e (Ev.lnF e) e (.Ek [] e e e)
def impl_pairNo_1 (N : Nat) (x1 : Pair) (x2 : ByteArray) : Option (Int) :=
 (strings_Compare N x1.Key x2).bind fun y103 =>
 some y103
instance i187 (N : Nat) (x1 : Pair) (x2 : ByteArray) : Sem Tryz.prog 286 (impl_pairNo_1 N x1 x2) [.agg [VS x1.Key,VS x1.Value],VS x2] 0 [] (fun r => VI r) (fun r => []) := .st e e Tryz.call286 fun B r => .c0 e i q fun _ _ => .Ek [] e e e
def slices_BinarySearchFunc_string_i2_l1 (N : Nat) (x1 : (List Pair)) (x2 : ByteArray) : Nat → Int → Int → Option (Int)
 | 0,_,_ => none
 | m + 1,x198,x199 =>
 (if (decide (x198 < x199)) = true then
 (intSh .shr .u64 (IntKind.wrap .u64 (w64 (x198 + x199))) 1).bind fun x218 =>
 (at? x1 (w64 (x218))).bind fun x221 =>
 (impl_pairNo_1 N x221 x2).bind fun y222 =>
 (if (decide (y222 < 0)) = true then
 slices_BinarySearchFunc_string_i2_l1 N x1 x2 m (w64 ((w64 (x218)) + 1)) x199
 else
 slices_BinarySearchFunc_string_i2_l1 N x1 x2 m x198 (w64 (x218)))
 else
 some x198)
def slices_BinarySearchFunc_string_i2 (N : Nat) (x1 : (List Pair)) (x2 : ByteArray) : Option (Int × Bool) :=
 joinP (fun (v194 : Int) =>
 (if (decide (v194 < (x1.length : Int))) = true then
 (at? x1 v194).bind fun x228 =>
 (impl_pairNo_1 N x228 x2).bind fun y229 =>
 some (v194,(y229 == 0))
 else
 some (v194,false))) fun j194 =>
 (slices_BinarySearchFunc_string_i2_l1 N x1 x2 N 0 (x1.length : Int)).bind (fun v211 => j194 v211)
instance i188 (N : Nat) (x1 : (List Pair)) (x2 : ByteArray) : Sem Tryz.prog 285 (slices_BinarySearchFunc_string_i2 N x1 x2) [RO 79 (x1.map encPair),VS x2,.fn 286 []] 0 [] (fun r => .tup [VI r.1,VB r.2]) (fun r => []) := .st e e Tryz.call285 fun B r => .st e (Ev.lnF e) e (.j e (fun v194 => [(0,RO 79 (x1.map encPair)),(1,VS x2),(2,.fn 286 []),(8,VI (x1.length : Int)),(9,VI v194)]) (fun v194 => []) (fun _ => .L2 e (fun x198 x199 => [(0,RO 79 (x1.map encPair)),(1,VS x2),(2,.fn 286 []),(8,VI (x1.length : Int)),(9,VI x198),(10,VI x199)]) (fun x198 x199 => []) (.k [0,1,2,8,9,10] []) fun _ x198 x199 _ hk211 => .q e (.a e e (.B fun _ hx218 => .st e (.sh e e hx218) e (.B fun _ hx221 => .st e (Ev.iaF e e hx221) e (.B fun _ hy222 => .st e (Ev.callx [] [] 0 e (sy hy222) e e (.cons (.agg (.d2 .nil)) (.d1 .nil)) e (.inl e) e e) e (.a e e (.R e (fun h => ⟨_,_,h,e,e⟩) (.k [0,1,2,8,9,10] [])) (.R e (fun h => ⟨_,_,h,e,e⟩) (.k [0,1,2,8,9,10] [])))))) (.X hk211 e e (.n e (.J e (.k [0,1,2,8,9] [])))))) fun v194 => .q e (.a e e (.B fun _ hx228 => .st e (Ev.iaF e e hx228) e (.B fun _ hy229 => .st e (Ev.callx [] [] 0 e (sy hy229) e e (.cons (.agg (.d2 .nil)) (.d1 .nil)) e (.inl e) e e) e (.Ek [] e e e))) (.Ek [] e e e)))
def impl_pairNo (N : Nat) (x1 : (List Pair)) (x2 : ByteArray) : Option (Int × Bool) :=
 (slices_BinarySearchFunc_string_i2 N x1 x2).bind fun y103 =>
 some (y103.1,y103.2)
instance i189 (N : Nat) (x1 : (List Pair)) (x2 : ByteArray) : Sem Tryz.prog 267 (impl_pairNo N x1 x2) [RO 79 (x1.map encPair),VS x2] 0 [] (fun r => .tup [VI r.1,VB r.2]) (fun r => []) := .st e e Tryz.call267 fun B r => .c0 e i q fun _ _ => .Ek [] e e e
def cmp_isNaN_int (N : Nat) (x1 : Int) : Option (Bool) :=
 some (x1 != x1)
instance i190 (N : Nat) (x1 : Int) : Sem Tryz.prog 287 (cmp_isNaN_int N x1) [VI x1] 0 [] (fun r => VB r) (fun r => []) := .st e e Tryz.call287 fun B r => .Ek [] e e e
def cmp_Compare_int (N : Nat) (x1 : Int) (x2 : Int) : Option (Int) :=
 (cmp_isNaN_int N x1).bind fun y120 =>
 (cmp_isNaN_int N x2).bind fun y124 =>
 (if y120 = true then
 (if y124 = true then
 some 0
 else
 some (-1 : Int))
 else
 (if y124 = true then
 some 1
 else
 (if (decide (x1 < x2)) = true then
 some (-1 : Int)
 else
 (if (decide (x1 > x2)) = true then
 some 1
 else
 some 0))))
instance i191 (N : Nat) (x1 : Int) (x2 : Int) : Sem Tryz.prog 271 (cmp_Compare_int N x1 x2) [VI x1,VI x2] 0 [] (fun r => VI r) (fun r => []) := .st e e Tryz.call271 fun B r => .c0 e i q fun _ _ => .c0 e i q fun _ _ => .q e (.a e e (.q e (.a e e (.Ek [] e e e) (.Ek [] e e e))) (.q e (.a e e (.Ek [] e e e) (.q e (.a e e (.Ek [] e e e) (.q e (.a e e (.Ek [] e e e) (.Ek [] e e e))))))))
def cmp_Or_int_l1 (N : Nat) (x1 : (List Int)) : Nat → Int → Option ((Int) ⊕ (Unit))
 | 0,_ => none
 | m + 1,x168 =>
 (if (decide (x168 < (x1.length : Int))) = true then
 (at? x1 x168).bind fun x184 =>
 (if (x184 != 0) = true then
 some (Sum.inl x184)
 else
 cmp_Or_int_l1 N x1 m (w64 (x168 + 1)))
 else
 some (Sum.inr ()))
def cmp_Or_int_l1_r (N : Nat) (x1 : (List Int)) : (List Int) → Int → Option ((Int) ⊕ (Unit))
 | [],x168 =>
 some (Sum.inr ())
 | hd :: tl,x168 =>
 (some hd).bind fun x184 =>
 (if (x184 != 0) = true then
 some (Sum.inl x184)
 else
 cmp_Or_int_l1_r N x1 tl (w64 (x168 + 1)))
theorem cmp_Or_int_l1_rng (N : Nat) (x1 : (List Int)) (hx : x1.length ≤ 1099511627776) : ∀ (d k m : Nat),x1.length = k + d → d < m → cmp_Or_int_l1 N x1 m (k : Int) = cmp_Or_int_l1_r N x1 (x1.drop k) (k : Int) := by
 intro d
 induction d with
 | zero =>
  intro k m hd hm
  obtain ⟨m,rfl⟩ : ∃ q,m = q + 1 := ⟨m - 1,by omega⟩
  rw [cmp_Or_int_l1,if_neg (by simp; omega),List.drop_eq_nil_of_le (by omega),cmp_Or_int_l1_r]
 | succ d ih =>
  intro k m hd hm
  obtain ⟨m,rfl⟩ : ∃ q,m = q + 1 := ⟨m - 1,by omega⟩
  have hk : k < x1.length := by omega
  rw [cmp_Or_int_l1,if_pos (by simp; omega),List.drop_eq_getElem_cons hk,cmp_Or_int_l1_r]
  have h1 := at_lt hk
  have h2 := w64_succ (k := k) (by omega)
  have h3 := ih (k + 1) m
  simp only [h1,h2,h3 (by omega) (by omega)]
theorem cmp_Or_int_l1_eq {N : Nat} (x1 : (List Int)) (hx : x1.length ≤ 1099511627776) (hN : x1.length < N) : cmp_Or_int_l1 N x1 N 0 = cmp_Or_int_l1_r N x1 x1 0 := cmp_Or_int_l1_rng N x1 hx x1.length 0 N (by omega) hN
def cmp_Or_int (N : Nat) (x1 : (List Int)) : Option (Int) :=
 joinP (fun (v164 : Unit) =>
 some 0) fun j164 =>
 (cmp_Or_int_l1 N x1 N 0).bind (Sum.elim (fun v176 => some v176) (fun (v177 : Unit) => j164 ()))
instance i192 (N : Nat) (x1 : (List Int)) : Sem Tryz.prog 270 (cmp_Or_int N x1) [RO 3 (x1.map encI)] 0 [] (fun r => VI r) (fun r => []) := .st e e Tryz.call270 fun B r => .j e (fun _ => [(3,VI 0)]) (fun _ => []) (fun _ => .st e (Ev.lnF e) e (.L1 e (fun x168 => [(3,VI 0),(6,RO 3 (x1.map encI)),(7,VI (x1.length : Int)),(8,VI x168)]) (fun x168 => []) (.k [3,6,7,8] []) fun _ x168 _ hk177 => .q e (.a e e (.q e (.B fun _ hx184 => .st e (Ev.iaF e e hx184) e (.a e e (.Xr hk177 e e (.il (.e e (.Ek [] e e e)))) (.R e (fun h => ⟨_,h,e,e⟩) (.k [3,6,7,8] []))))) (.X hk177 e e (.ir (.n e (.J e (.k [3] [])))))))) fun _ => .Ek [] e e e
def impl_opened_1 (N : Nat) (x1 : Tsession) (x2 : Tsession) : Option (Int) :=
 (cmp_Compare_int N x1.index x2.index).bind fun y109 =>
 (cmp_Compare_int N x1.number x2.number).bind fun y110 =>
 (cmp_Or_int N ([y109,y110] : List Int)).bind fun y111 =>
 some y111
instance i193 (N : Nat) (x1 : Tsession) (x2 : Tsession) : Sem Tryz.prog 269 (impl_opened_1 N x1 x2) [.agg [VI x1.number,VI x1.seq,VI x1.index,VS x1.reply],.agg [VI x2.number,VI x2.seq,VI x2.index,VS x2.reply]] 0 [] (fun r => VI r) (fun r => []) := .st e e Tryz.call269 fun B r => .c0 e i q fun y109 _ => .c0 e i q fun y110 _ => .st e (Ev.bsW (ys := ([y109,y110] : List Int)) (f := encI) e (.d2 .nil) e e e e e) e (.f (hp := (.cons (.borrow e (by decide) (lendW (fun _ => e) _ e)) .nil)) (hcase := fun _ => (.inr ⟨rfl,ownL_root trivial⟩)) [] [5256] 0 e i q fun _ _ => .dn e (.Ek [] e e e))
def slices_MinFunc_session_l1 (N : Nat) (x1 : (List Tsession)) : Nat → Int → Int → Int → Int → ByteArray → Option (Int × Int × Int × ByteArray)
 | 0,_,_,_,_,_ => none
 | m + 1,x253,x258,x259,x260,x261 =>
 (if (decide (x253 < (x1.length : Int))) = true then
 joinP (fun (v290 : Int × Int × Int × ByteArray) =>
 slices_MinFunc_session_l1 N x1 m (w64 (x253 + 1)) v290.1 v290.2.1 v290.2.2.1 v290.2.2.2) fun j290 =>
 (at? x1 x253).bind fun x293 =>
 (impl_opened_1 N x293 (Tsession.mk x258 x259 x260 x261)).bind fun y294 =>
 (if (decide (y294 < 0)) = true then
 (at? x1 x253).bind fun x297 =>
 j290 (x297.number,x297.seq,x297.index,x297.reply)
 else
 j290 (x258,x259,x260,x261))
 else
 some (x258,x259,x260,x261))
def slices_MinFunc_session (N : Nat) (x1 : (List Tsession)) : Option (Tsession) :=
 (if (decide ((x1.length : Int) < 1)) = true then
 none
 else
 (at? x1 0).bind fun x204 =>
 joinP (fun (v251 : Int × Int × Int × ByteArray) =>
 some (Tsession.mk v251.1 v251.2.1 v251.2.2.1 v251.2.2.2)) fun j251 =>
 (slices_MinFunc_session_l1 N x1 N 1 x204.number x204.seq x204.index x204.reply).bind (fun v279 => j251 (v279.1,v279.2.1,v279.2.2.1,v279.2.2.2)))
instance i194 (N : Nat) (x1 : (List Tsession)) : Sem Tryz.prog 268 (slices_MinFunc_session N x1) [RO 341 (x1.map encTsession),.fn 269 []] 0 [] (fun r => .agg [VI r.number,VI r.seq,VI r.index,VS r.reply]) (fun r => []) := .st e e Tryz.call268 fun B r => .q e (.st e (Ev.lnF e) e (.a e e .no (.B fun _ hx204 => .st e (Ev.iaF e e hx204) e (.j e (fun v251 => [(4,.ptr 0 0),(5,.ptr 1 0)]) (fun v251 => [(0,.box [VI 0,VI 0,VI 0,VS (⟨#[]⟩ : ByteArray)]),(1,.box [VI v251.1,VI v251.2.1,VI v251.2.2.1,VS v251.2.2.2])]) (fun _ => .L5 e (fun x253 x258 x259 x260 x261 => [(0,RO 341 (x1.map encTsession)),(1,.fn 269 []),(4,.ptr 0 0),(5,.ptr 1 0),(6,VI x253)]) (fun x253 x258 x259 x260 x261 => [(0,.box [VI 0,VI 0,VI 0,VS (⟨#[]⟩ : ByteArray)]),(1,.box [VI x258,VI x259,VI x260,VS x261])]) (.k [0,1,4,5,6] [1000,13336]) fun _ x253 x258 x259 x260 x261 _ hk279 => .q e (.st e (Ev.lnF e) e (.a e e (.j e (fun v290 => [(0,RO 341 (x1.map encTsession)),(1,.fn 269 []),(4,.ptr 0 0),(5,.ptr 1 0),(6,VI x253)]) (fun v290 => [(0,.box [VI 0,VI 0,VI 0,VS (⟨#[]⟩ : ByteArray)]),(1,.box [VI v290.1,VI v290.2.1,VI v290.2.2.1,VS v290.2.2.2])]) (fun _ => .B fun _ hx293 => .st e (Ev.iaF e e hx293) e (.B fun _ hy294 => .st e (Ev.callx [] [] 0 e (sy hy294) e e (.cons (.agg (.d4 .nil)) (.cons (.agg (.d4 .nil)) .nil)) e (.inl e) e e) e (.dn e (.a e e (.B fun _ hx297 => .st e (Ev.iaF e e hx297) e (.J e (.k [0,1,4,5,6] [0,1]))) (.J e (.k [0,1,4,5,6] [0,1])))))) fun v290 => .R e (fun h => ⟨_,_,_,_,_,h,e,e⟩) (.k [0,1,4,5,6] [0,1])) (.X hk279 e e (.n e (.J e (.k [4,5] [0,1]))))))) fun v251 => .Ek [] e e e))))
def impl_sessionKey (N : Nat) (x1 : Int) : Option (ByteArray) :=
 (impl_Decimal N x1).bind fun y106 =>
 (scat? (⟨#[115]⟩ : ByteArray) y106).bind fun x107 =>
 some x107
instance i195 (N : Nat) (x1 : Int) : Sem Tryz.prog 273 (impl_sessionKey N x1) [VI x1] 0 [] (fun r => VS r) (fun r => []) := .st e e Tryz.call273 fun B r => .c0 e i q fun _ _ => .B fun _ hx107 => .st e (Ev.addS e e hx107) e (.Ek [] e e e)
def slices_Delete_Pair (N : Nat) (x1 : (List Pair)) (x2 : Int) (x3 : Int) : Option ((List Pair)) := del? x1 x2 x3
instance i196 (N : Nat) (x1 : (List Pair)) (x2 : Int) (x3 : Int) : Sem Tryz.prog 288 (slices_Delete_Pair N x1 x2 x3) [.sl 0 79 0 x1.length,VI x2,VI x3] 1 [(0,.vec 79 (x1.map encPair))] (fun r => .sl 1 79 0 r.length) (fun r => [(0,.gone),(1,.vec 79 (r.map encPair))]) := ⟨fun r h => says_del Tryz.call288 Pe.ins288 (fun _ => e) h⟩
def impl_withoutKey (N : Nat) (x1 : (List Pair)) (x2 : ByteArray) : Option ((List Pair)) :=
 (cat? ([] : List Pair) x1).bind fun x121 =>
 (impl_pairNo N x1 x2).bind fun y132 =>
 (if y132.2 = true then
 (slices_Delete_Pair N x121 y132.1 (w64 (y132.1 + 1))).bind fun y135 =>
 some y135
 else
 some x121)
instance i197 (N : Nat) (x1 : (List Pair)) (x2 : ByteArray) : Sem Tryz.prog 272 (impl_withoutKey N x1 x2) [RO 79 (x1.map encPair),VS x2] 0 [] (fun r => .sl 0 79 0 r.length) (fun r => [(0,.vec 79 (r.map encPair))]) := .st e e Tryz.call272 fun B r => .B fun _ hx121 => .st e (Ev.apW (f := encPair) (ontoN (f := encPair) e) (addsF e) e bt79 e hx121) e (.q e (.c0 e i q fun _ _ => .a e e (.f [5112] [] 1 e i q fun _ _ => .Ek [17448] e e e) (.Ek [5112] e e e)))
def slices_Insert_Pair (N : Nat) (x1 : (List Pair)) (x2 : Int) (x3 : (List Pair)) : Option ((List Pair)) := ins? x1 x2 x3
instance i198 (N : Nat) (x1 : (List Pair)) (x2 : Int) (x3 : (List Pair)) : Sem Tryz.prog 289 (slices_Insert_Pair N x1 x2 x3) [.sl 0 79 0 x1.length,VI x2,.sl 1 79 0 x3.length] 2 [(0,.vec 79 (x1.map encPair)),(1,.vec 79 (x3.map encPair))] (fun r => .sl 2 79 0 r.length) (fun r => [(0,.gone),(1,.gone),(2,.vec 79 (r.map encPair))]) := ⟨fun r h => says_ins Tryz.call289 Pe.ins289 (fun _ => e) h⟩
def impl_withKey (N : Nat) (x1 : (List Pair)) (x2 : ByteArray) (x3 : ByteArray) : Option ((List Pair)) :=
 (cat? ([] : List Pair) x1).bind fun x123 =>
 (impl_pairNo N x1 x2).bind fun y127 =>
 (if y127.2 = true then
 (at? x123 y127.1).bind fun x137 =>
 some (x123.set y127.1.toNat (Pair.mk x137.Key x3))
 else
 (slices_Insert_Pair N x123 y127.1 ([(Pair.mk x2 x3)] : List Pair)).bind fun y139 =>
 some y139)
instance i199 (N : Nat) (x1 : (List Pair)) (x2 : ByteArray) (x3 : ByteArray) : Sem Tryz.prog 274 (impl_withKey N x1 x2 x3) [RO 79 (x1.map encPair),VS x2,VS x3] 0 [] (fun r => .sl 0 79 0 r.length) (fun r => [(0,.vec 79 (r.map encPair))]) := .st e e Tryz.call274 fun B r => .B fun _ hx123 => .st e (Ev.apW (f := encPair) (ontoN (f := encPair) e) (addsF e) e bt79 e hx123) e (.c0 e i q fun _ _ => .q e (.a e e (.B fun x137 hx137 => .st e (Ev.iaW e e e hx137) e (.st e (Ev.stE (f := encPair) (v' := (Pair.mk x137.Key x3)) e e (at_some hx137).2 e (.d1 .nil) e e e e e) e (.Ek [5112] e e e))) (.st e (Ev.bsW (ys := ([(Pair.mk x2 x3)] : List Pair)) (f := encPair) e (.d2 .nil) e e e e e) e (.f [5112,25656] [] 1 e i q fun _ _ => .Ek [25672] e e e))))
def impl_withSession (N : Nat) (x1 : (List Pair)) (x2 : Tsession) : Option ((List Pair)) :=
 (impl_sessionKey N x2.number).bind fun y124 =>
 (impl_Decimal N x2.seq).bind fun y125 =>
 (scat? y125 (⟨#[32]⟩ : ByteArray)).bind fun x126 =>
 (impl_Decimal N x2.index).bind fun y127 =>
 (scat? x126 y127).bind fun x128 =>
 (scat? x128 (⟨#[32]⟩ : ByteArray)).bind fun x129 =>
 (scat? x129 x2.reply).bind fun x130 =>
 (impl_withKey N x1 y124 x130).bind fun y131 =>
 some y131
instance i200 (N : Nat) (x1 : (List Pair)) (x2 : Tsession) : Sem Tryz.prog 252 (impl_withSession N x1 x2) [RO 79 (x1.map encPair),.agg [VI x2.number,VI x2.seq,VI x2.index,VS x2.reply]] 0 [] (fun r => .sl 0 79 0 r.length) (fun r => [(0,.vec 79 (r.map encPair))]) := .st e e Tryz.call252 fun B r => .c0 e i q fun _ _ => .c0 e i q fun _ _ => .B fun _ hx126 => .st e (Ev.addS e e hx126) e (.c0 e i q fun _ _ => .B fun _ hx128 => .st e (Ev.addS e e hx128) e (.B fun _ hx129 => .st e (Ev.addS e e hx129) e (.B fun _ hx130 => .st e (Ev.addS e e hx130) e (.c1 e i q fun _ _ => .dn e (.Ek [5352] e e e)))))
def impl_opened (N : Nat) (x1 : (List Pair)) (x2 : Int) (x3 : (List Tsession)) : Option ((List Pair) × ByteArray × Bool) :=
 joinP (fun (v165 : Int × Bool) =>
 (if (!v165.2) = true then
 some ([],(⟨#[]⟩ : ByteArray),false)
 else
 joinP (fun (v186 : (List Pair)) =>
 (impl_withSession N v186 (Tsession.mk v165.1 0 x2 (⟨#[]⟩ : ByteArray))).bind fun y199 =>
 (impl_Decimal N (w64 (v165.1 + 1))).bind fun y206 =>
 (impl_withKey N y199 (⟨#[110]⟩ : ByteArray) y206).bind fun y207 =>
 (impl_Decimal N v165.1).bind fun y210 =>
 (scat? (⟨#[111,112,101,110,32]⟩ : ByteArray) y210).bind fun x211 =>
 some (y207,x211,true)) fun j186 =>
 (if (decide ((x3.length : Int) ≥ 3)) = true then
 (slices_MinFunc_session N x3).bind fun y191 =>
 (impl_sessionKey N y191.number).bind fun y194 =>
 (impl_withoutKey N x1 y194).bind fun y195 =>
 j186 y195
 else
 j186 x1))) fun j165 =>
 (impl_pairNo N x1 (⟨#[110]⟩ : ByteArray)).bind fun y169 =>
 (if y169.2 = true then
 (at? x1 y169.1).bind fun x173 =>
 (impl_ReadDecimal N x173.Value).bind fun y174 =>
 j165 (y174.1,y174.2)
 else
 j165 (1,true))
instance i201 (N : Nat) (x1 : (List Pair)) (x2 : Int) (x3 : (List Tsession)) : Sem Tryz.prog 248 (impl_opened N x1 x2 x3) [RO 79 (x1.map encPair),VI x2,RO 341 (x3.map encTsession)] 0 [] (fun r => .tup [.sl 0 79 0 r.1.length,VS r.2.1,VB r.2.2]) (fun r => [(0,.vec 79 (r.1.map encPair))]) := .st e e Tryz.call248 fun B r => .j e (fun v165 => [(0,RO 79 (x1.map encPair)),(1,VI x2),(2,RO 341 (x3.map encTsession)),(9,VI v165.1),(10,VB v165.2)]) (fun v165 => []) (fun _ => .c0 e i q fun _ _ => .a e e (.B fun _ hx173 => .st e (Ev.iaF e e hx173) e (.c0 e i q fun _ _ => .J e (.k [0,1,2,9,10] []))) (.J e (.k [0,1,2,9,10] []))) fun v165 => .q e (.a e e (.E e e (.n [0,1,2] [] [0] [] [10000000])) (.j e (fun v186 => [(1,VI x2),(9,VI v165.1),(13,RO 79 (v186.map encPair))]) (fun v186 => []) (fun _ => .st e (Ev.lnF e) e (.a e e (.c0 e i q fun _ _ => .c0 e i q fun _ _ => .c1 e i q fun y195 _ => .J e (.t (Gh.frz (f := encPair) (g := encPair) (xs := y195) 42024 (fun _ => e) e) (.ro [1,9,13] [42024] [] [42024] [13] []))) (.J e (.ro [1,9,13] [] [] [] [13] [])))) fun v186 => .c1 e i q fun _ _ => .c0 e i q fun _ _ => .f (hp := (.cons (.borrow e (by decide) (lendW (fun _ => e) _ e)) (.d2 .nil))) (hcase := fun _ => (.inr ⟨rfl,ownL_root ⟨own_rows (fun _ => e) _,trivial⟩⟩)) [] [46120] 1 e i q fun _ _ => .c0 e i q fun _ _ => .B fun _ hx211 => .st e (Ev.addS e e hx211) e (.Ek [50216] e e e)))
def impl_acted_1 (N : Nat) (x1 : Tsession) (x2 : Command) : Option (Bool) :=
 some (x1.number == x2.Session)
instance i202 (N : Nat) (x1 : Tsession) (x2 : Command) : Sem Tryz.prog 250 (impl_acted_1 N x1 x2) [.agg [VI x1.number,VI x1.seq,VI x1.index,VS x1.reply],.ptr 0 0] 1 [(0,.box [VI x2.Op,VI x2.Session,VI x2.Seq,VS x2.Key,VS x2.Value,VS x2.Old])] (fun r => VB r) (fun r => [(0,.box [VI x2.Op,VI x2.Session,VI x2.Seq,VS x2.Key,VS x2.Value,VS x2.Old])]) := .st e e Tryz.call250 fun B r => .Ek [0] e e e
def slices_IndexFunc_session_l1 (N : Nat) (x1 : (List Tsession)) (x2 : Command) : Nat → Int → Option ((Int) ⊕ (Unit))
 | 0,_ => none
 | m + 1,x182 =>
 (if (decide (x182 < (x1.length : Int))) = true then
 (at? x1 x182).bind fun x203 =>
 (impl_acted_1 N x203 x2).bind fun y204 =>
 (if y204 = true then
 some (Sum.inl x182)
 else
 slices_IndexFunc_session_l1 N x1 x2 m (w64 (x182 + 1)))
 else
 some (Sum.inr ()))
def slices_IndexFunc_session_l1_r (N : Nat) (x1 : (List Tsession)) (x2 : Command) : (List Tsession) → Int → Option ((Int) ⊕ (Unit))
 | [],x182 =>
 some (Sum.inr ())
 | hd :: tl,x182 =>
 (some hd).bind fun x203 =>
 (impl_acted_1 N x203 x2).bind fun y204 =>
 (if y204 = true then
 some (Sum.inl x182)
 else
 slices_IndexFunc_session_l1_r N x1 x2 tl (w64 (x182 + 1)))
theorem slices_IndexFunc_session_l1_rng (N : Nat) (x1 : (List Tsession)) (x2 : Command) (hx : x1.length ≤ 1099511627776) : ∀ (d k m : Nat),x1.length = k + d → d < m → slices_IndexFunc_session_l1 N x1 x2 m (k : Int) = slices_IndexFunc_session_l1_r N x1 x2 (x1.drop k) (k : Int) := by
 intro d
 induction d with
 | zero =>
  intro k m hd hm
  obtain ⟨m,rfl⟩ : ∃ q,m = q + 1 := ⟨m - 1,by omega⟩
  rw [slices_IndexFunc_session_l1,if_neg (by simp; omega),List.drop_eq_nil_of_le (by omega),slices_IndexFunc_session_l1_r]
 | succ d ih =>
  intro k m hd hm
  obtain ⟨m,rfl⟩ : ∃ q,m = q + 1 := ⟨m - 1,by omega⟩
  have hk : k < x1.length := by omega
  rw [slices_IndexFunc_session_l1,if_pos (by simp; omega),List.drop_eq_getElem_cons hk,slices_IndexFunc_session_l1_r]
  have h1 := at_lt hk
  have h2 := w64_succ (k := k) (by omega)
  have h3 := ih (k + 1) m
  simp only [h1,h2,h3 (by omega) (by omega)]
theorem slices_IndexFunc_session_l1_eq {N : Nat} (x1 : (List Tsession)) (x2 : Command) (hx : x1.length ≤ 1099511627776) (hN : x1.length < N) : slices_IndexFunc_session_l1 N x1 x2 N 0 = slices_IndexFunc_session_l1_r N x1 x2 x1 0 := slices_IndexFunc_session_l1_rng N x1 x2 hx x1.length 0 N (by omega) hN
def slices_IndexFunc_session (N : Nat) (x1 : (List Tsession)) (x2 : Command) : Option (Int) :=
 joinP (fun (v179 : Unit) =>
 some (-1 : Int)) fun j179 =>
 (slices_IndexFunc_session_l1 N x1 x2 N 0).bind (Sum.elim (fun v196 => some v196) (fun (v197 : Unit) => j179 ()))
instance i203 (N : Nat) (x1 : (List Tsession)) (x2 : Command) : Sem Tryz.prog 249 (slices_IndexFunc_session N x1 x2) [RO 341 (x1.map encTsession),.fn 250 [.ptr 0 0]] 1 [(0,.box [VI x2.Op,VI x2.Session,VI x2.Seq,VS x2.Key,VS x2.Value,VS x2.Old])] (fun r => VI r) (fun r => [(0,.box [VI x2.Op,VI x2.Session,VI x2.Seq,VS x2.Key,VS x2.Value,VS x2.Old])]) := .st e e Tryz.call249 fun B r => .j e (fun _ => []) (fun _ => [(0,.box [VI x2.Op,VI x2.Session,VI x2.Seq,VS x2.Key,VS x2.Value,VS x2.Old])]) (fun _ => .st e (Ev.lnF e) e (.L1 e (fun x182 => [(0,RO 341 (x1.map encTsession)),(1,.fn 250 [.ptr 0 0]),(7,VI (x1.length : Int)),(8,VI x182)]) (fun x182 => [(0,.box [VI x2.Op,VI x2.Session,VI x2.Seq,VS x2.Key,VS x2.Value,VS x2.Old])]) (.k [0,1,7,8] [0]) fun _ x182 _ hk197 => .q e (.a e e (.q e (.B fun _ hx203 => .st e (Ev.iaF e e hx203) e (.B fun _ hy204 => .st e (Ev.callx [0] [] 0 e (sy hy204) e e (.cons (.agg (.d4 .nil)) (.cons (.ptr e) .nil)) e (.inl e) e e) e (.a e e (.Xr hk197 e e (.il (.e e (.Ek [0] e e e)))) (.R e (fun h => ⟨_,h,e,e⟩) (.k [0,1,7,8] [0])))))) (.X hk197 e e (.ir (.n e (.J e (.k [] [0])))))))) fun _ => .Ek [0] e e e
def impl_operated (N : Nat) (x1 : (List Pair)) (x2 : Command) : Option ((List Pair) × ByteArray) :=
 (scat? (⟨#[107]⟩ : ByteArray) x2.Key).bind fun x152 =>
 joinP (fun (v160 : ByteArray × Bool) =>
 (if (x2.Op == 2) = true then
 (if (!v160.2) = true then
 some (x1,(⟨#[110,111,110,101]⟩ : ByteArray))
 else
 (scat? (⟨#[103,111,116,32]⟩ : ByteArray) v160.1).bind fun x185 =>
 some (x1,x185))
 else
 (if (x2.Op == 3) = true then
 (impl_withKey N x1 x152 x2.Value).bind fun y188 =>
 some (y188,(⟨#[112,117,116]⟩ : ByteArray))
 else
 (if (x2.Op == 4) = true then
 (if (!v160.2) = true then
 some (x1,(⟨#[110,111,110,101]⟩ : ByteArray))
 else
 (impl_withoutKey N x1 x152).bind fun y193 =>
 some (y193,(⟨#[99,117,116]⟩ : ByteArray)))
 else
 (if (!decide (v160.1 = x2.Old)) = true then
 some (x1,(⟨#[107,101,112,116]⟩ : ByteArray))
 else
 (impl_withKey N x1 x152 x2.Value).bind fun y197 =>
 some (y197,(⟨#[115,119,97,112,112,101,100]⟩ : ByteArray))))))) fun j160 =>
 (impl_pairNo N x1 x152).bind fun y164 =>
 (if y164.2 = true then
 (at? x1 y164.1).bind fun x167 =>
 j160 (x167.Value,true)
 else
 j160 ((⟨#[]⟩ : ByteArray),false))
instance i204 (N : Nat) (x1 : (List Pair)) (x2 : Command) : Sem Tryz.prog 251 (impl_operated N x1 x2) [RO 79 (x1.map encPair),.agg [VI x2.Op,VI x2.Session,VI x2.Seq,VS x2.Key,VS x2.Value,VS x2.Old]] 0 [] (fun r => .tup [RO 79 (r.1.map encPair),VS r.2]) (fun r => []) := .st e e Tryz.call251 fun B r => .B fun x152 hx152 => .st e (Ev.addS e e hx152) e (.j e (fun v160 => [(0,RO 79 (x1.map encPair)),(3,.ptr 0 0),(6,VS x152),(7,VS v160.1),(8,VB v160.2)]) (fun v160 => [(0,.box [VI x2.Op,VI x2.Session,VI x2.Seq,VS x2.Key,VS x2.Value,VS x2.Old])]) (fun _ => .c0 e i q fun _ _ => .a e e (.B fun _ hx167 => .st e (Ev.iaF e e hx167) e (.J e (.k [0,3,6,7,8] [1000]))) (.J e (.k [0,3,6,7,8] [1000]))) fun v160 => .q e (.a e e (.q e (.a e e (.E e e (.ro [0,1] [] [] [] [0] [])) (.B fun _ hx185 => .st e (Ev.addS e e hx185) e (.E e e (.ro [0,1] [] [] [] [0] []))))) (.a e e (.c1 e i q fun y188 _ => .E e e (.t (Gh.frz (f := encPair) (g := encPair) (xs := y188) 50216 (fun _ => e) e) (.ro [0,1] [50216] [] [50216] [0] []))) (.a e e (.q e (.a e e (.E e e (.ro [0,1] [] [] [] [0] [])) (.c1 e i q fun y193 _ => .E e e (.t (Gh.frz (f := encPair) (g := encPair) (xs := y193) 66568 (fun _ => e) e) (.ro [0,1] [66568] [] [66568] [0] []))))) (.q e (.a e e (.E e e (.ro [0,1] [] [] [] [0] [])) (.c1 e i q fun y197 _ => .E e e (.t (Gh.frz (f := encPair) (g := encPair) (xs := y197) 78888 (fun _ => e) e) (.ro [0,1] [78888] [] [78888] [0] [])))))))))
def impl_acted_i1 (N : Nat) (x1 : (List Pair)) (x2 : Int) (x3 : Command) (x4 : (List Tsession)) : Option ((List Pair) × ByteArray × Bool) :=
 (if (x3.Op == 1) = true then
 (impl_opened N x1 x2 x4).bind fun y145 =>
 some (y145.1,y145.2.1,y145.2.2)
 else
 (slices_IndexFunc_session N x4 x3).bind fun y149 =>
 (if (decide (y149 < 0)) = true then
 some (x1,(⟨#[101,120,112,105,114,101,100]⟩ : ByteArray),true)
 else
 (at? x4 y149).bind fun x164 =>
 (if (decide (x3.Seq < x164.seq)) = true then
 some (x1,(⟨#[115,116,97,108,101]⟩ : ByteArray),true)
 else
 (at? x4 y149).bind fun x167 =>
 (if (x3.Seq == x167.seq) = true then
 (at? x4 y149).bind fun x170 =>
 some (x1,x170.reply,true)
 else
 (at? x4 y149).bind fun x172 =>
 (if (decide (x3.Seq > (w64 (x172.seq + 1)))) = true then
 some (x1,(⟨#[103,97,112]⟩ : ByteArray),true)
 else
 (impl_operated N x1 x3).bind fun y177 =>
 (impl_withSession N y177.1 (Tsession.mk x3.Session x3.Seq x2 y177.2)).bind fun y179 =>
 some (y179,y177.2,true))))))
instance i206 (N : Nat) (x1 : (List Pair)) (x2 : Int) (x3 : Command) (x4 : (List Tsession)) : Sem Tryz.prog 215 (impl_acted_i1 N x1 x2 x3 x4) [RO 79 (x1.map encPair),VI x2,.agg [VI x3.Op,VI x3.Session,VI x3.Seq,VS x3.Key,VS x3.Value,VS x3.Old],.sl 0 341 0 x4.length] 1 [(0,.vec 341 (x4.map encTsession))] (fun r => .tup [RO 79 (r.1.map encPair),VS r.2.1,VB r.2.2]) (fun r => [(0,.vec 341 (x4.map encTsession))]) := .st e e Tryz.call215 fun B r => .q e (.a e e (.f (hp := (.d2 (.cons (.borrow e (by decide) (lendW (fun _ => e) _ e)) .nil))) (hcase := fun _ => (.inr ⟨rfl,ownL_root ⟨own_rows (fun _ => e) _,trivial⟩⟩)) [] [0] 1 e i q fun y145 _ => .E e e (.t (Gh.frz (f := encPair) (g := encPair) (xs := y145.1) 9240 (fun _ => e) e) (.ro [0,1,2] [0,9240] [] [9240] [0] [0]))) (.f (hp := (.cons (.borrow e (by decide) (lendW (fun _ => e) _ e)) (.cons (.fn (.cons (.ptr e) .nil)) .nil))) (hcase := fun _ => (.inr ⟨rfl,ownL_root ⟨e,trivial⟩⟩)) [1000] [0] 0 e i q fun _ _ => .q e (.a e e (.E e e (.ro [0,1,2] [0] [] [] [0] [0])) (.B fun _ hx164 => .st e (Ev.iaW e e e hx164) e (.st e (Ev.ldE (f := encTsession) e e (at_some hx164).2 e e e) e (.dn e (.a e e (.E e e (.ro [0,1,2] [0] [] [] [0] [0])) (.B fun _ hx167 => .st e (Ev.iaW e e e hx167) e (.st e (Ev.ldE (f := encTsession) e e (at_some hx167).2 e e e) e (.dn e (.a e e (.B fun _ hx170 => .st e (Ev.iaW e e e hx170) e (.st e (Ev.ldE (f := encTsession) e e (at_some hx170).2 e e e) e (.dn e (.E e e (.ro [0,1,2] [0] [] [] [0] [0]))))) (.B fun _ hx172 => .st e (Ev.iaW e e e hx172) e (.st e (Ev.ldE (f := encTsession) e e (at_some hx172).2 e e e) e (.dn e (.a e e (.E e e (.ro [0,1,2] [0] [] [] [0] [0])) (.c0 e i q fun _ _ => .c1 e i q fun y179 _ => .E e e (.t (Gh.frz (f := encPair) (g := encPair) (xs := y179) 54376 (fun _ => e) e) (.ro [0,1,2] [0,54376] [] [54376] [0] [0]))))))))))))))))))
def impl_Act (N : Nat) (x1 : (List Pair)) (x2 : Int) (x3 : Command) : Option ((List Pair) × ByteArray × Bool) :=
 (impl_sessionsOf N x1).bind fun y149 =>
 (impl_MapOk N x1).bind fun y169 =>
 (if (!y169) = true then
 some ([],(⟨#[]⟩ : ByteArray),false)
 else
 (impl_CommandOk N x3).bind fun y171 =>
 (if (!y171) = true then
 some ([],(⟨#[]⟩ : ByteArray),false)
 else
 (impl_within N x2 0 100000).bind fun y173 =>
 (if (!y173) = true then
 some ([],(⟨#[]⟩ : ByteArray),false)
 else
 (if (!y149.2) = true then
 some ([],(⟨#[]⟩ : ByteArray),false)
 else
 (impl_acted_i1 N x1 x2 x3 y149.1).bind fun y179 =>
 (if (!y179.2.2) = true then
 some ([],(⟨#[]⟩ : ByteArray),false)
 else
 (impl_MapOk N y179.1).bind fun y188 =>
 (if (!y188) = true then
 some ([],(⟨#[]⟩ : ByteArray),false)
 else
 (cat? ([] : List Pair) y179.1).bind fun x191 =>
 some (x191,y179.2.1,true)))))))
instance i207 (N : Nat) (x1 : (List Pair)) (x2 : Int) (x3 : Command) : Sem Tryz.prog 148 (impl_Act N x1 x2 x3) [RO 79 (x1.map encPair),VI x2,.agg [VI x3.Op,VI x3.Session,VI x3.Seq,VS x3.Key,VS x3.Value,VS x3.Old]] 0 [] (fun r => .tup [.sl 0 79 0 r.1.length,VS r.2.1,VB r.2.2]) (fun r => [(0,.vec 79 (r.1.map encPair))]) := .st e e Tryz.call148 fun B r => .c1 e i q fun _ _ => .q e (.q e (.c0 e i q fun _ _ => .a e e (.E e e (.n [0,1,2] [] [0] [] [10000000])) (.c0 e i q fun _ _ => .a e e (.E e e (.n [0,1,2] [] [0] [] [10000000])) (.c0 e i q fun _ _ => .a e e (.E e e (.n [0,1,2] [] [0] [] [10000000])) (.a e e (.E e e (.n [0,1,2] [] [0] [] [10000000])) (.f [5112] [] 0 e i q fun _ _ => .q e (.q e (.a e e (.E e e (.n [0,1,2] [] [0] [] [10000000])) (.c0 e i q fun _ _ => .a e e (.E e e (.n [0,1,2] [] [0] [] [10000000])) (.B fun _ hx191 => .st e (Ev.apW (f := encPair) (ontoN (f := encPair) e) (addsF e) e bt79 e hx191) e (.Ek [29688] e e e)))))))))))
def impl_made_i1 (N : Nat) (x1 : (List Pair)) (x2 : Int) (x3 : Entry) : Option ((List Pair) × ByteArray) :=
 (impl_ReadCommand N x3.Data).bind fun y119 =>
 (if (x3.Kind != 3) = true then
 some (x1,(⟨#[]⟩ : ByteArray))
 else
 (if (!y119.2) = true then
 some (x1,(⟨#[]⟩ : ByteArray))
 else
 (impl_Act N x1 x2 y119.1).bind fun y129 =>
 (if (!y129.2.2) = true then
 some (x1,(⟨#[]⟩ : ByteArray))
 else
 some (y129.1,y129.2.1))))
instance i209 (N : Nat) (x1 : (List Pair)) (x2 : Int) (x3 : Entry) : Sem Tryz.prog 81 (impl_made_i1 N x1 x2 x3) [.sl 0 79 0 x1.length,VI x2,.agg [VI x3.Term,VI x3.Kind,VS x3.Data]] 1 [(0,.vec 79 (x1.map encPair))] (fun r => .tup [.sl 1 79 0 r.1.length,VS r.2]) (fun r => [(0,.gone),(1,.vec 79 (r.1.map encPair))]) := .st e e Tryz.call81 fun B r => .c0 e i q fun _ _ => .q e (.q e (.a e e (.E e e (.mv [0,1] [0] [0] [0,30000000])) (.a e e (.E e e (.mv [0,1] [0] [0] [0,30000000])) (.f (hp := (.cons (.borrow e (by decide) (lendW (fun _ => e) _ e)) (.d1 (.cons (.agg (.d4 (.d2 .nil))) .nil)))) (hcase := fun _ => (.inr ⟨rfl,ownL_root ⟨own_rows (fun _ => e) _,trivial⟩⟩)) [] [0] 1 e i q fun _ _ => .q e (.a e e (.E e e (.mv [0,1] [0] [0] [0,30000000])) (.E e e (.mv [0,1] [0,17432] [0] [0,17432])))))))
def impl_Fold_l1 (N : Nat) (x1 : (List Applied)) (x2 : Int) : Nat → (List Pair) → Int → Option (((List Pair) × Bool) ⊕ ((List Pair)))
 | 0,_,_ => none
 | m + 1,x277,x278 =>
 (if (decide (x278 ≤ x2)) = true then
 (slices_IndexFunc_Applied N x1 x278).bind fun y319 =>
 (if (decide (y319 < 0)) = true then
 some (Sum.inl ([],false))
 else
 (at? x1 y319).bind fun x324 =>
 (impl_made_i1 N x277 x278 x324.Entry).bind fun y325 =>
 impl_Fold_l1 N x1 x2 m y325.1 (w64 (x278 + 1)))
 else
 some (Sum.inr x277))
def impl_Fold (N : Nat) (x1 : (List Applied)) (x2 : Int) : Option ((List Pair) × Bool) :=
 (impl_within N x2 0 100000).bind fun y220 =>
 (if (!y220) = true then
 some ([],false)
 else
 (if (decide ((x1.length : Int) > 400)) = true then
 some ([],false)
 else
 joinP (fun (v274 : (List Pair)) =>
 some (v274,true)) fun j274 =>
 (impl_Fold_l1 N x1 x2 N ([] : (List Pair)) 1).bind (Sum.elim (fun v301 => some v301) (fun (v302 : (List Pair)) => j274 v302))))
instance i210 (N : Nat) (x1 : (List Applied)) (x2 : Int) : Sem Tryz.prog 33 (impl_Fold N x1 x2) [RO 102 (x1.map encApplied),VI x2] 0 [] (fun r => .tup [.sl 0 79 0 r.1.length,VB r.2]) (fun r => [(0,.vec 79 (r.1.map encPair))]) := .st e e Tryz.call33 fun B r => .q e (.q e (.c0 e i q fun _ _ => .a e e (.E e e (.n [0,1] [] [0] [] [10000000])) (.st e (Ev.lnF e) e (.a e e (.E e e (.n [0,1] [] [0] [] [10000000])) (.j e (fun v274 => [(6,.sl 0 79 0 v274.length)]) (fun v274 => [(0,.vec 79 (v274.map encPair))]) (fun _ => .L2 e (fun x277 x278 => [(0,RO 102 (x1.map encApplied)),(1,VI x2),(6,.sl 0 79 0 x277.length),(7,.ptr 1 0)]) (fun x277 x278 => [(0,.vec 79 (x277.map encPair)),(1,.box [VI x278])]) (.n [0,1,6,7] [17384] [6] [] [10000000,17384]) fun _ x277 x278 _ hk302 => .q e (.a e e (.q e (.f [1] [] 0 e i q fun _ _ => .q e (.a e e (.Xr hk302 e e (.il (.e e (.E e e (.n [0,1] [] [0] [] [10000000]))))) (.B fun _ hx324 => .st e (Ev.iaF e e hx324) e (.f [0] [] 1 e i q fun _ _ => .dn e (.R e (fun h => ⟨_,_,h,e,e⟩) (.k [0,1,6,7] [42072,50152]))))))) (.X hk302 e e (.ir (.n e (.J e (.k [6] [0]))))))) fun v274 => .Ek [0] e e e)))))
def slices_Equal_Pair_l1 (N : Nat) (x1 : (List Pair)) (x2 : (List Pair)) : Nat → Int → Option ((Bool) ⊕ (Unit))
 | 0,_ => none
 | m + 1,x172 =>
 (if (decide (x172 < (x1.length : Int))) = true then
 (at? x1 x172).bind fun x187 =>
 (at? x2 x172).bind fun x188 =>
 (if ((decide (x187.Key = x188.Key) && (decide (x187.Value = x188.Value) && true)) ^^ true) = true then
 some (Sum.inl false)
 else
 slices_Equal_Pair_l1 N x1 x2 m (w64 (x172 + 1)))
 else
 some (Sum.inr ()))
def slices_Equal_Pair (N : Nat) (x1 : (List Pair)) (x2 : (List Pair)) : Option (Bool) :=
 (if ((x1.length : Int) != (x2.length : Int)) = true then
 some false
 else
 joinP (fun (v168 : Unit) =>
 some true) fun j168 =>
 (slices_Equal_Pair_l1 N x1 x2 N 0).bind (Sum.elim (fun v180 => some v180) (fun (v181 : Unit) => j168 ())))
instance i211 (N : Nat) (x1 : (List Pair)) (x2 : (List Pair)) : Sem Tryz.prog 34 (slices_Equal_Pair N x1 x2) [RO 79 (x1.map encPair),RO 79 (x2.map encPair)] 0 [] (fun r => VB r) (fun r => []) := .so s34 e Tryz.call34 fun B r => .q e (.st e (Ev.lnF e) e (.st e (Ev.lnF e) e (.a e e (.Ek [] e e e) (.j e (fun _ => []) (fun _ => []) (fun _ => .st e (Ev.lnF e) e (.L1 e (fun x172 => [(0,RO 79 (x1.map encPair)),(1,RO 79 (x2.map encPair)),(12,VI (x1.length : Int)),(13,VI x172)]) (fun x172 => []) (.k [0,1,12,13] []) fun _ x172 _ hk181 => .q e (.a e e (.q e (.B fun _ hx187 => .st e (Ev.iaF e e hx187) e (.B fun _ hx188 => .st e (Ev.iaF e e hx188) e (.dn e (.a e e (.Xr hk181 e e (.il (.e e (.Ek [] e e e)))) (.R e (fun h => ⟨_,h,e,e⟩) (.k [0,1,12,13] []))))))) (.X hk181 e e (.ir (.n e (.J e (.k [] [])))))))) fun _ => .Ek [] e e e))))
def impl_Folded (N : Nat) (x1 : World) (x2 : Int) : Option (Bool) :=
 (impl_within N x2 1 (x1.Servers.length : Int)).bind fun y134 =>
 (if (!y134) = true then
 some false
 else
 (at? x1.Servers (w64 (x2 - 1))).bind fun x139 =>
 (impl_OpenShelf N x139.Disk).bind fun y143 =>
 (if (y143.2.2 != 0) = true then
 some false
 else
 (impl_ShelfMap N x139.Disk y143.1).bind fun y149 =>
 (impl_Fold N x1.Applied y143.1.Stamp).bind fun y153 =>
 (if y149.2 = true then
 (if y153.2 = true then
 (slices_Equal_Pair N y149.1 y153.1).bind fun y159 =>
 some y159
 else
 some false)
 else
 some false)))
instance i212 (N : Nat) (x1 : World) (x2 : Int) : Sem Tryz.prog 8 (impl_Folded N x1 x2) [.agg [RO 4 (x1.Up.map encB),RO 70 (x1.Servers.map (encServer false)),RO 153 (x1.Net.map (encMessage false)),RO 156 (x1.Waits.map encWait),RO 160 (x1.Leaders.map (encLeader false)),RO 102 (x1.Applied.map encApplied),RO 165 (x1.Replies.map encReply)],VI x2] 0 [] (fun r => VB r) (fun r => []) := .st e e Tryz.call8 fun B r => .q e (.st e (Ev.lnF e) e (.c0 e i q fun _ _ => .a e e (.Ek [] e e e) (.B fun _ hx139 => .st e (Ev.iaF e e hx139) e (.f [] [] 4 e i q fun _ _ => .q e (.a e e (.Ek [] e e e) (.f (hp := (.cons (.agg (.d1 .nil)) (.cons (.agg (.cons (.borrow e (by decide) (lendW (fun _ => e) _ e)) (.d2 (.d1 (.cons (.borrow e (by decide) (lendW (fun _ => e) _ e)) (.cons (.borrow e (by decide) (lendW (fun _ => e) _ e)) (.d1 .nil))))))) .nil))) (hcase := fun _ => (.inr ⟨rfl,ownL_root ⟨own_rows (fun _ => e) _,trivial⟩⟩)) [] [17400,17401,17402] 1 e i q fun _ _ => .c1 e i q fun _ _ => .q e (.a e e (.a e e (.f (hp := (.cons (.borrow e (by decide) (lendW (fun _ => e) _ e)) (.cons (.borrow e (by decide) (lendW (fun _ => e) _ e)) .nil))) (hcase := fun _ => (.inr ⟨rfl,ownL_root trivial⟩)) [] [29704,33832] 0 e i q fun _ _ => .Ek [] e e e) (.Ek [] e e e)) (.Ek [] e e e))))))))
def laws_eqBoolS_l1 (N : Nat) (x1 : (List Bool)) (x2 : (List Bool)) : Nat → Int → Option ((Bool) ⊕ (Unit))
 | 0,_ => none
 | m + 1,x198 =>
 (if (decide (x198 < (x1.length : Int))) = true then
 (at? x1 x198).bind fun x223 =>
 (at? x2 x198).bind fun x224 =>
 (if ((x223 == x224) ^^ true) = true then
 some (Sum.inl false)
 else
 laws_eqBoolS_l1 N x1 x2 m (w64 (x198 + 1)))
 else
 some (Sum.inr ()))
def laws_eqBoolS (N : Nat) (x1 : (List Bool)) (x2 : (List Bool)) : Option (Bool) :=
 (if ((x1.length : Int) != (x2.length : Int)) = true then
 some false
 else
 joinP (fun (v195 : Unit) =>
 some true) fun j195 =>
 (laws_eqBoolS_l1 N x1 x2 N 0).bind (Sum.elim (fun v211 => some v211) (fun (v212 : Unit) => j195 ())))
instance i213 (N : Nat) (x1 : (List Bool)) (x2 : (List Bool)) : Sem Tryz.prog 35 (laws_eqBoolS N x1 x2) [RO 4 (x1.map encB),RO 4 (x2.map encB)] 0 [] (fun r => VB r) (fun r => []) := .st e e Tryz.call35 fun B r => .q e (.st e (Ev.lnF e) e (.st e (Ev.lnF e) e (.a e e (.Ek [] e e e) (.j e (fun _ => []) (fun _ => []) (fun _ => .L1 e (fun x198 => [(0,RO 4 (x1.map encB)),(1,RO 4 (x2.map encB)),(5,VI x198)]) (fun x198 => []) (.k [0,1,5] []) fun _ x198 _ hk212 => .q e (.st e (Ev.lnF e) e (.a e e (.q e (.B fun _ hx223 => .st e (Ev.iaF e e hx223) e (.B fun _ hx224 => .st e (Ev.iaF e e hx224) e (.dn e (.a e e (.Xr hk212 e e (.il (.e e (.Ek [] e e e)))) (.R e (fun h => ⟨_,h,e,e⟩) (.k [0,1,5] []))))))) (.X hk212 e e (.ir (.n e (.J e (.k [] [])))))))) fun _ => .Ek [] e e e))))
def laws_eqIntS_l1 (N : Nat) (x1 : (List Int)) (x2 : (List Int)) : Nat → Int → Option ((Bool) ⊕ (Unit))
 | 0,_ => none
 | m + 1,x198 =>
 (if (decide (x198 < (x1.length : Int))) = true then
 (at? x1 x198).bind fun x223 =>
 (at? x2 x198).bind fun x224 =>
 (if (x223 != x224) = true then
 some (Sum.inl false)
 else
 laws_eqIntS_l1 N x1 x2 m (w64 (x198 + 1)))
 else
 some (Sum.inr ()))
def laws_eqIntS (N : Nat) (x1 : (List Int)) (x2 : (List Int)) : Option (Bool) :=
 (if ((x1.length : Int) != (x2.length : Int)) = true then
 some false
 else
 joinP (fun (v195 : Unit) =>
 some true) fun j195 =>
 (laws_eqIntS_l1 N x1 x2 N 0).bind (Sum.elim (fun v211 => some v211) (fun (v212 : Unit) => j195 ())))
instance i214 (N : Nat) (x1 : (List Int)) (x2 : (List Int)) : Sem Tryz.prog 153 (laws_eqIntS N x1 x2) [RO 3 (x1.map encI),RO 3 (x2.map encI)] 0 [] (fun r => VB r) (fun r => []) := .st e e Tryz.call153 fun B r => .q e (.st e (Ev.lnF e) e (.st e (Ev.lnF e) e (.a e e (.Ek [] e e e) (.j e (fun _ => []) (fun _ => []) (fun _ => .L1 e (fun x198 => [(0,RO 3 (x1.map encI)),(1,RO 3 (x2.map encI)),(5,VI x198)]) (fun x198 => []) (.k [0,1,5] []) fun _ x198 _ hk212 => .q e (.st e (Ev.lnF e) e (.a e e (.q e (.B fun _ hx223 => .st e (Ev.iaF e e hx223) e (.B fun _ hx224 => .st e (Ev.iaF e e hx224) e (.dn e (.a e e (.Xr hk212 e e (.il (.e e (.Ek [] e e e)))) (.R e (fun h => ⟨_,h,e,e⟩) (.k [0,1,5] []))))))) (.X hk212 e e (.ir (.n e (.J e (.k [] [])))))))) fun _ => .Ek [] e e e))))
def laws_eqEntry (N : Nat) (x1 : Entry) (x2 : Entry) : Option (Bool) :=
 (if (x1.Term != x2.Term) = true then
 some false
 else
 (if (x1.Kind != x2.Kind) = true then
 some false
 else
 (if (!decide (x1.Data = x2.Data)) = true then
 some false
 else
 some true)))
instance i215 (N : Nat) (x1 : Entry) (x2 : Entry) : Sem Tryz.prog 155 (laws_eqEntry N x1 x2) [.agg [VI x1.Term,VI x1.Kind,VS x1.Data],.agg [VI x2.Term,VI x2.Kind,VS x2.Data]] 0 [] (fun r => VB r) (fun r => []) := .st e e Tryz.call155 fun B r => .q e (.a e e (.Ek [] e e e) (.q e (.a e e (.Ek [] e e e) (.q e (.a e e (.Ek [] e e e) (.Ek [] e e e))))))
def laws_eqEntryS_l1 (N : Nat) (x1 : (List Entry)) (x2 : (List Entry)) : Nat → Int → Option ((Bool) ⊕ (Unit))
 | 0,_ => none
 | m + 1,x222 =>
 (if (decide (x222 < (x1.length : Int))) = true then
 (at? x1 x222).bind fun x254 =>
 (at? x2 x222).bind fun x255 =>
 (laws_eqEntry N x254 x255).bind fun y256 =>
 (if (!y256) = true then
 some (Sum.inl false)
 else
 laws_eqEntryS_l1 N x1 x2 m (w64 (x222 + 1)))
 else
 some (Sum.inr ()))
def laws_eqEntryS (N : Nat) (x1 : (List Entry)) (x2 : (List Entry)) : Option (Bool) :=
 (if ((x1.length : Int) != (x2.length : Int)) = true then
 some false
 else
 joinP (fun (v219 : Unit) =>
 some true) fun j219 =>
 (laws_eqEntryS_l1 N x1 x2 N 0).bind (Sum.elim (fun v239 => some v239) (fun (v240 : Unit) => j219 ())))
instance i216 (N : Nat) (x1 : (List Entry)) (x2 : (List Entry)) : Sem Tryz.prog 152 (laws_eqEntryS N x1 x2) [RO 100 (x1.map encEntry),RO 100 (x2.map encEntry)] 0 [] (fun r => VB r) (fun r => []) := .st e e Tryz.call152 fun B r => .q e (.st e (Ev.lnF e) e (.st e (Ev.lnF e) e (.a e e (.Ek [] e e e) (.j e (fun _ => []) (fun _ => []) (fun _ => .L1 e (fun x222 => [(0,RO 100 (x1.map encEntry)),(1,RO 100 (x2.map encEntry)),(5,VI x222)]) (fun x222 => []) (.k [0,1,5] []) fun _ x222 _ hk240 => .q e (.st e (Ev.lnF e) e (.a e e (.q e (.B fun _ hx254 => .st e (Ev.iaF e e hx254) e (.B fun _ hx255 => .st e (Ev.iaF e e hx255) e (.c0 e i q fun _ _ => .dn e (.a e e (.Xr hk240 e e (.il (.e e (.Ek [] e e e)))) (.R e (fun h => ⟨_,h,e,e⟩) (.k [0,1,5] []))))))) (.X hk240 e e (.ir (.n e (.J e (.k [] [])))))))) fun _ => .Ek [] e e e))))
def laws_eqLog (N : Nat) (x1 : Log) (x2 : Log) : Option (Bool) :=
 (if (x1.Start != x2.Start) = true then
 some false
 else
 (if (x1.StartTerm != x2.StartTerm) = true then
 some false
 else
 (laws_eqEntryS N x1.Entries x2.Entries).bind fun y112 =>
 (if (!y112) = true then
 some false
 else
 some true)))
instance i217 (N : Nat) (x1 : Log) (x2 : Log) : Sem Tryz.prog 154 (laws_eqLog N x1 x2) [.agg [VI x1.Start,VI x1.StartTerm,RO 100 (x1.Entries.map encEntry)],.agg [VI x2.Start,VI x2.StartTerm,RO 100 (x2.Entries.map encEntry)]] 0 [] (fun r => VB r) (fun r => []) := .st e e Tryz.call154 fun B r => .q e (.a e e (.Ek [] e e e) (.q e (.a e e (.Ek [] e e e) (.q e (.c0 e i q fun _ _ => .a e e (.Ek [] e e e) (.Ek [] e e e))))))
def laws_eqPeer (N : Nat) (x1 : Peer) (x2 : Peer) : Option (Bool) :=
 (if (x1.Id != x2.Id) = true then
 some false
 else
 (if (x1.Next != x2.Next) = true then
 some false
 else
 (if (x1.Match != x2.Match) = true then
 some false
 else
 (if (x1.Sent != x2.Sent) = true then
 some false
 else
 some true))))
instance i218 (N : Nat) (x1 : Peer) (x2 : Peer) : Sem Tryz.prog 253 (laws_eqPeer N x1 x2) [.agg [VI x1.Id,VI x1.Next,VI x1.Match,VI x1.Sent],.agg [VI x2.Id,VI x2.Next,VI x2.Match,VI x2.Sent]] 0 [] (fun r => VB r) (fun r => []) := .st e e Tryz.call253 fun B r => .q e (.a e e (.Ek [] e e e) (.q e (.a e e (.Ek [] e e e) (.q e (.a e e (.Ek [] e e e) (.q e (.a e e (.Ek [] e e e) (.Ek [] e e e))))))))
def laws_eqPeerS_l1 (N : Nat) (x1 : (List Peer)) (x2 : (List Peer)) : Nat → Int → Option ((Bool) ⊕ (Unit))
 | 0,_ => none
 | m + 1,x222 =>
 (if (decide (x222 < (x1.length : Int))) = true then
 (at? x1 x222).bind fun x254 =>
 (at? x2 x222).bind fun x255 =>
 (laws_eqPeer N x254 x255).bind fun y256 =>
 (if (!y256) = true then
 some (Sum.inl false)
 else
 laws_eqPeerS_l1 N x1 x2 m (w64 (x222 + 1)))
 else
 some (Sum.inr ()))
def laws_eqPeerS (N : Nat) (x1 : (List Peer)) (x2 : (List Peer)) : Option (Bool) :=
 (if ((x1.length : Int) != (x2.length : Int)) = true then
 some false
 else
 joinP (fun (v219 : Unit) =>
 some true) fun j219 =>
 (laws_eqPeerS_l1 N x1 x2 N 0).bind (Sum.elim (fun v239 => some v239) (fun (v240 : Unit) => j219 ())))
instance i219 (N : Nat) (x1 : (List Peer)) (x2 : (List Peer)) : Sem Tryz.prog 216 (laws_eqPeerS N x1 x2) [RO 327 (x1.map encPeer),RO 327 (x2.map encPeer)] 0 [] (fun r => VB r) (fun r => []) := .st e e Tryz.call216 fun B r => .q e (.st e (Ev.lnF e) e (.st e (Ev.lnF e) e (.a e e (.Ek [] e e e) (.j e (fun _ => []) (fun _ => []) (fun _ => .L1 e (fun x222 => [(0,RO 327 (x1.map encPeer)),(1,RO 327 (x2.map encPeer)),(5,VI x222)]) (fun x222 => []) (.k [0,1,5] []) fun _ x222 _ hk240 => .q e (.st e (Ev.lnF e) e (.a e e (.q e (.B fun _ hx254 => .st e (Ev.iaF e e hx254) e (.B fun _ hx255 => .st e (Ev.iaF e e hx255) e (.c0 e i q fun _ _ => .dn e (.a e e (.Xr hk240 e e (.il (.e e (.Ek [] e e e)))) (.R e (fun h => ⟨_,h,e,e⟩) (.k [0,1,5] []))))))) (.X hk240 e e (.ir (.n e (.J e (.k [] [])))))))) fun _ => .Ek [] e e e))))
def laws_eqNode (N : Nat) (x1 : Node) (x2 : Node) : Option (Bool) :=
 (if (x1.Id != x2.Id) = true then
 some false
 else
 (if (x1.Term != x2.Term) = true then
 some false
 else
 (if (x1.Vote != x2.Vote) = true then
 some false
 else
 (if (x1.Role != x2.Role) = true then
 some false
 else
 (if (x1.Lead != x2.Lead) = true then
 some false
 else
 (laws_eqIntS N x1.Conf x2.Conf).bind fun y151 =>
 (if (!y151) = true then
 some false
 else
 (laws_eqLog N x1.Log x2.Log).bind fun y157 =>
 (if (!y157) = true then
 some false
 else
 (if (x1.Commit != x2.Commit) = true then
 some false
 else
 (if (x1.Clock != x2.Clock) = true then
 some false
 else
 (if (x1.Limit != x2.Limit) = true then
 some false
 else
 (laws_eqIntS N x1.Votes x2.Votes).bind fun y169 =>
 (if (!y169) = true then
 some false
 else
 (laws_eqPeerS N x1.Peers x2.Peers).bind fun y172 =>
 (if (!y172) = true then
 some false
 else
 some true))))))))))))
instance i220 (N : Nat) (x1 : Node) (x2 : Node) : Sem Tryz.prog 149 (laws_eqNode N x1 x2) [.agg [VI x1.Id,VI x1.Term,VI x1.Vote,VI x1.Role,VI x1.Lead,RO 3 (x1.Conf.map encI),VI x1.Log.Start,VI x1.Log.StartTerm,RO 100 (x1.Log.Entries.map encEntry),VI x1.Commit,VI x1.Clock,VI x1.Limit,RO 3 (x1.Votes.map encI),RO 327 (x1.Peers.map encPeer)],.agg [VI x2.Id,VI x2.Term,VI x2.Vote,VI x2.Role,VI x2.Lead,RO 3 (x2.Conf.map encI),VI x2.Log.Start,VI x2.Log.StartTerm,RO 100 (x2.Log.Entries.map encEntry),VI x2.Commit,VI x2.Clock,VI x2.Limit,RO 3 (x2.Votes.map encI),RO 327 (x2.Peers.map encPeer)]] 0 [] (fun r => VB r) (fun r => []) := .st e e Tryz.call149 fun B r => .q e (.a e e (.Ek [] e e e) (.q e (.a e e (.Ek [] e e e) (.q e (.a e e (.Ek [] e e e) (.q e (.a e e (.Ek [] e e e) (.q e (.a e e (.Ek [] e e e) (.q e (.c0 e i q fun _ _ => .a e e (.Ek [] e e e) (.q e (.c0 e i q fun _ _ => .a e e (.Ek [] e e e) (.q e (.a e e (.Ek [] e e e) (.q e (.a e e (.Ek [] e e e) (.q e (.a e e (.Ek [] e e e) (.q e (.c0 e i q fun _ _ => .a e e (.Ek [] e e e) (.q e (.c0 e i q fun _ _ => .a e e (.Ek [] e e e) (.Ek [] e e e))))))))))))))))))))))))
def laws_eqFile (N : Nat) (x1 : File) (x2 : File) : Option (Bool) :=
 (if (!decide (x1.Name = x2.Name)) = true then
 some false
 else
 (if (!decide (x1.Text = x2.Text)) = true then
 some false
 else
 some true))
instance i221 (N : Nat) (x1 : File) (x2 : File) : Sem Tryz.prog 254 (laws_eqFile N x1 x2) [.agg [VS x1.Name,VS x1.Text],.agg [VS x2.Name,VS x2.Text]] 0 [] (fun r => VB r) (fun r => []) := .st e e Tryz.call254 fun B r => .q e (.a e e (.Ek [] e e e) (.q e (.a e e (.Ek [] e e e) (.Ek [] e e e))))
def laws_eqFileS_l1 (N : Nat) (x1 : (List File)) (x2 : (List File)) : Nat → Int → Option ((Bool) ⊕ (Unit))
 | 0,_ => none
 | m + 1,x222 =>
 (if (decide (x222 < (x1.length : Int))) = true then
 (at? x1 x222).bind fun x254 =>
 (at? x2 x222).bind fun x255 =>
 (laws_eqFile N x254 x255).bind fun y256 =>
 (if (!y256) = true then
 some (Sum.inl false)
 else
 laws_eqFileS_l1 N x1 x2 m (w64 (x222 + 1)))
 else
 some (Sum.inr ()))
def laws_eqFileS (N : Nat) (x1 : (List File)) (x2 : (List File)) : Option (Bool) :=
 (if ((x1.length : Int) != (x2.length : Int)) = true then
 some false
 else
 joinP (fun (v219 : Unit) =>
 some true) fun j219 =>
 (laws_eqFileS_l1 N x1 x2 N 0).bind (Sum.elim (fun v239 => some v239) (fun (v240 : Unit) => j219 ())))
instance i222 (N : Nat) (x1 : (List File)) (x2 : (List File)) : Sem Tryz.prog 217 (laws_eqFileS N x1 x2) [RO 141 (x1.map encFile),RO 141 (x2.map encFile)] 0 [] (fun r => VB r) (fun r => []) := .st e e Tryz.call217 fun B r => .q e (.st e (Ev.lnF e) e (.st e (Ev.lnF e) e (.a e e (.Ek [] e e e) (.j e (fun _ => []) (fun _ => []) (fun _ => .L1 e (fun x222 => [(0,RO 141 (x1.map encFile)),(1,RO 141 (x2.map encFile)),(5,VI x222)]) (fun x222 => []) (.k [0,1,5] []) fun _ x222 _ hk240 => .q e (.st e (Ev.lnF e) e (.a e e (.q e (.B fun _ hx254 => .st e (Ev.iaF e e hx254) e (.B fun _ hx255 => .st e (Ev.iaF e e hx255) e (.c0 e i q fun _ _ => .dn e (.a e e (.Xr hk240 e e (.il (.e e (.Ek [] e e e)))) (.R e (fun h => ⟨_,h,e,e⟩) (.k [0,1,5] []))))))) (.X hk240 e e (.ir (.n e (.J e (.k [] [])))))))) fun _ => .Ek [] e e e))))
def laws_eqDisk (N : Nat) (x1 : Disk) (x2 : Disk) : Option (Bool) :=
 (laws_eqFileS N x1.Files x2.Files).bind fun y104 =>
 (if (!y104) = true then
 some false
 else
 some true)
instance i223 (N : Nat) (x1 : Disk) (x2 : Disk) : Sem Tryz.prog 150 (laws_eqDisk N x1 x2) [.agg [RO 141 (x1.Files.map encFile)],.agg [RO 141 (x2.Files.map encFile)]] 0 [] (fun r => VB r) (fun r => []) := .st e e Tryz.call150 fun B r => .q e (.c0 e i q fun _ _ => .a e e (.Ek [] e e e) (.Ek [] e e e))
def laws_eqManifest (N : Nat) (x1 : Manifest) (x2 : Manifest) : Option (Bool) :=
 (laws_eqIntS N x1.Segs x2.Segs).bind fun y119 =>
 (if (!y119) = true then
 some false
 else
 (if (x1.Next != x2.Next) = true then
 some false
 else
 (if (x1.Base != x2.Base) = true then
 some false
 else
 (if (x1.BaseTerm != x2.BaseTerm) = true then
 some false
 else
 (laws_eqIntS N x1.Conf x2.Conf).bind fun y128 =>
 (if (!y128) = true then
 some false
 else
 some true)))))
instance i224 (N : Nat) (x1 : Manifest) (x2 : Manifest) : Sem Tryz.prog 218 (laws_eqManifest N x1 x2) [.agg [RO 3 (x1.Segs.map encI),VI x1.Next,VI x1.Base,VI x1.BaseTerm,RO 3 (x1.Conf.map encI)],.agg [RO 3 (x2.Segs.map encI),VI x2.Next,VI x2.Base,VI x2.BaseTerm,RO 3 (x2.Conf.map encI)]] 0 [] (fun r => VB r) (fun r => []) := .st e e Tryz.call218 fun B r => .q e (.c0 e i q fun _ _ => .a e e (.Ek [] e e e) (.q e (.a e e (.Ek [] e e e) (.q e (.a e e (.Ek [] e e e) (.q e (.a e e (.Ek [] e e e) (.q e (.c0 e i q fun _ _ => .a e e (.Ek [] e e e) (.Ek [] e e e))))))))))
def laws_eqSpot (N : Nat) (x1 : Spot) (x2 : Spot) : Option (Bool) :=
 (if (!decide (x1.Key = x2.Key)) = true then
 some false
 else
 (if (x1.Seg != x2.Seg) = true then
 some false
 else
 (if (x1.At != x2.At) = true then
 some false
 else
 (if (x1.Size != x2.Size) = true then
 some false
 else
 some true))))
instance i225 (N : Nat) (x1 : Spot) (x2 : Spot) : Sem Tryz.prog 255 (laws_eqSpot N x1 x2) [.agg [VS x1.Key,VI x1.Seg,VI x1.At,VI x1.Size],.agg [VS x2.Key,VI x2.Seg,VI x2.At,VI x2.Size]] 0 [] (fun r => VB r) (fun r => []) := .st e e Tryz.call255 fun B r => .q e (.a e e (.Ek [] e e e) (.q e (.a e e (.Ek [] e e e) (.q e (.a e e (.Ek [] e e e) (.q e (.a e e (.Ek [] e e e) (.Ek [] e e e))))))))
def laws_eqSpotS_l1 (N : Nat) (x1 : (List Spot)) (x2 : (List Spot)) : Nat → Int → Option ((Bool) ⊕ (Unit))
 | 0,_ => none
 | m + 1,x222 =>
 (if (decide (x222 < (x1.length : Int))) = true then
 (at? x1 x222).bind fun x254 =>
 (at? x2 x222).bind fun x255 =>
 (laws_eqSpot N x254 x255).bind fun y256 =>
 (if (!y256) = true then
 some (Sum.inl false)
 else
 laws_eqSpotS_l1 N x1 x2 m (w64 (x222 + 1)))
 else
 some (Sum.inr ()))
def laws_eqSpotS (N : Nat) (x1 : (List Spot)) (x2 : (List Spot)) : Option (Bool) :=
 (if ((x1.length : Int) != (x2.length : Int)) = true then
 some false
 else
 joinP (fun (v219 : Unit) =>
 some true) fun j219 =>
 (laws_eqSpotS_l1 N x1 x2 N 0).bind (Sum.elim (fun v239 => some v239) (fun (v240 : Unit) => j219 ())))
instance i226 (N : Nat) (x1 : (List Spot)) (x2 : (List Spot)) : Sem Tryz.prog 219 (laws_eqSpotS N x1 x2) [RO 148 (x1.map encSpot),RO 148 (x2.map encSpot)] 0 [] (fun r => VB r) (fun r => []) := .st e e Tryz.call219 fun B r => .q e (.st e (Ev.lnF e) e (.st e (Ev.lnF e) e (.a e e (.Ek [] e e e) (.j e (fun _ => []) (fun _ => []) (fun _ => .L1 e (fun x222 => [(0,RO 148 (x1.map encSpot)),(1,RO 148 (x2.map encSpot)),(5,VI x222)]) (fun x222 => []) (.k [0,1,5] []) fun _ x222 _ hk240 => .q e (.st e (Ev.lnF e) e (.a e e (.q e (.B fun _ hx254 => .st e (Ev.iaF e e hx254) e (.B fun _ hx255 => .st e (Ev.iaF e e hx255) e (.c0 e i q fun _ _ => .dn e (.a e e (.Xr hk240 e e (.il (.e e (.Ek [] e e e)))) (.R e (fun h => ⟨_,h,e,e⟩) (.k [0,1,5] []))))))) (.X hk240 e e (.ir (.n e (.J e (.k [] [])))))))) fun _ => .Ek [] e e e))))
def laws_eqShelf (N : Nat) (x1 : Shelf) (x2 : Shelf) : Option (Bool) :=
 (laws_eqManifest N x1.Man x2.Man).bind fun y117 =>
 (if (!y117) = true then
 some false
 else
 (laws_eqSpotS N x1.Dir x2.Dir).bind fun y123 =>
 (if (!y123) = true then
 some false
 else
 (if (x1.Stamp != x2.Stamp) = true then
 some false
 else
 some true)))
instance i227 (N : Nat) (x1 : Shelf) (x2 : Shelf) : Sem Tryz.prog 151 (laws_eqShelf N x1 x2) [.agg [RO 3 (x1.Man.Segs.map encI),VI x1.Man.Next,VI x1.Man.Base,VI x1.Man.BaseTerm,RO 3 (x1.Man.Conf.map encI),RO 148 (x1.Dir.map encSpot),VI x1.Stamp],.agg [RO 3 (x2.Man.Segs.map encI),VI x2.Man.Next,VI x2.Man.Base,VI x2.Man.BaseTerm,RO 3 (x2.Man.Conf.map encI),RO 148 (x2.Dir.map encSpot),VI x2.Stamp]] 0 [] (fun r => VB r) (fun r => []) := .st e e Tryz.call151 fun B r => .q e (.c0 e i q fun _ _ => .a e e (.Ek [] e e e) (.q e (.c0 e i q fun _ _ => .a e e (.Ek [] e e e) (.q e (.a e e (.Ek [] e e e) (.Ek [] e e e))))))
def laws_eqServer (N : Nat) (x1 : Server) (x2 : Server) : Option (Bool) :=
 (laws_eqNode N x1.Node x2.Node).bind fun y127 =>
 (if (!y127) = true then
 some false
 else
 (laws_eqDisk N x1.Disk x2.Disk).bind fun y133 =>
 (if (!y133) = true then
 some false
 else
 (laws_eqShelf N x1.Shelf x2.Shelf).bind fun y139 =>
 (if (!y139) = true then
 some false
 else
 (if (!decide (x1.Stage = x2.Stage)) = true then
 some false
 else
 (if (x1.StageAt != x2.StageAt) = true then
 some false
 else
 (if (x1.StageTerm != x2.StageTerm) = true then
 some false
 else
 some true))))))
instance i228 (N : Nat) (x1 : Server) (x2 : Server) : Sem Tryz.prog 82 (laws_eqServer N x1 x2) [.agg [VI x1.Node.Id,VI x1.Node.Term,VI x1.Node.Vote,VI x1.Node.Role,VI x1.Node.Lead,RO 3 (x1.Node.Conf.map encI),VI x1.Node.Log.Start,VI x1.Node.Log.StartTerm,RO 100 (x1.Node.Log.Entries.map encEntry),VI x1.Node.Commit,VI x1.Node.Clock,VI x1.Node.Limit,RO 3 (x1.Node.Votes.map encI),RO 327 (x1.Node.Peers.map encPeer),RO 141 (x1.Disk.Files.map encFile),RO 3 (x1.Shelf.Man.Segs.map encI),VI x1.Shelf.Man.Next,VI x1.Shelf.Man.Base,VI x1.Shelf.Man.BaseTerm,RO 3 (x1.Shelf.Man.Conf.map encI),RO 148 (x1.Shelf.Dir.map encSpot),VI x1.Shelf.Stamp,VS x1.Stage,VI x1.StageAt,VI x1.StageTerm],.agg [VI x2.Node.Id,VI x2.Node.Term,VI x2.Node.Vote,VI x2.Node.Role,VI x2.Node.Lead,RO 3 (x2.Node.Conf.map encI),VI x2.Node.Log.Start,VI x2.Node.Log.StartTerm,RO 100 (x2.Node.Log.Entries.map encEntry),VI x2.Node.Commit,VI x2.Node.Clock,VI x2.Node.Limit,RO 3 (x2.Node.Votes.map encI),RO 327 (x2.Node.Peers.map encPeer),RO 141 (x2.Disk.Files.map encFile),RO 3 (x2.Shelf.Man.Segs.map encI),VI x2.Shelf.Man.Next,VI x2.Shelf.Man.Base,VI x2.Shelf.Man.BaseTerm,RO 3 (x2.Shelf.Man.Conf.map encI),RO 148 (x2.Shelf.Dir.map encSpot),VI x2.Shelf.Stamp,VS x2.Stage,VI x2.StageAt,VI x2.StageTerm]] 0 [] (fun r => VB r) (fun r => []) := .st e e Tryz.call82 fun B r => .q e (.c0 e i q fun _ _ => .a e e (.Ek [] e e e) (.q e (.c0 e i q fun _ _ => .a e e (.Ek [] e e e) (.q e (.c0 e i q fun _ _ => .a e e (.Ek [] e e e) (.q e (.a e e (.Ek [] e e e) (.q e (.a e e (.Ek [] e e e) (.q e (.a e e (.Ek [] e e e) (.Ek [] e e e))))))))))))
def laws_eqServerS_l1 (N : Nat) (x1 : (List Server)) (x2 : (List Server)) : Nat → Int → Option ((Bool) ⊕ (Unit))
 | 0,_ => none
 | m + 1,x222 =>
 (if (decide (x222 < (x1.length : Int))) = true then
 (at? x1 x222).bind fun x254 =>
 (at? x2 x222).bind fun x255 =>
 (laws_eqServer N x254 x255).bind fun y256 =>
 (if (!y256) = true then
 some (Sum.inl false)
 else
 laws_eqServerS_l1 N x1 x2 m (w64 (x222 + 1)))
 else
 some (Sum.inr ()))
def laws_eqServerS (N : Nat) (x1 : (List Server)) (x2 : (List Server)) : Option (Bool) :=
 (if ((x1.length : Int) != (x2.length : Int)) = true then
 some false
 else
 joinP (fun (v219 : Unit) =>
 some true) fun j219 =>
 (laws_eqServerS_l1 N x1 x2 N 0).bind (Sum.elim (fun v239 => some v239) (fun (v240 : Unit) => j219 ())))
instance i229 (N : Nat) (x1 : (List Server)) (x2 : (List Server)) : Sem Tryz.prog 36 (laws_eqServerS N x1 x2) [RO 70 (x1.map (encServer false)),RO 70 (x2.map (encServer false))] 0 [] (fun r => VB r) (fun r => []) := .st e e Tryz.call36 fun B r => .q e (.st e (Ev.lnF e) e (.st e (Ev.lnF e) e (.a e e (.Ek [] e e e) (.j e (fun _ => []) (fun _ => []) (fun _ => .L1 e (fun x222 => [(0,RO 70 (x1.map (encServer false))),(1,RO 70 (x2.map (encServer false))),(5,VI x222)]) (fun x222 => []) (.k [0,1,5] []) fun _ x222 _ hk240 => .q e (.st e (Ev.lnF e) e (.a e e (.q e (.B fun _ hx254 => .st e (Ev.iaF e e hx254) e (.B fun _ hx255 => .st e (Ev.iaF e e hx255) e (.c0 e i q fun _ _ => .dn e (.a e e (.Xr hk240 e e (.il (.e e (.Ek [] e e e)))) (.R e (fun h => ⟨_,h,e,e⟩) (.k [0,1,5] []))))))) (.X hk240 e e (.ir (.n e (.J e (.k [] [])))))))) fun _ => .Ek [] e e e))))
def laws_eqMessage (N : Nat) (x1 : Message) (x2 : Message) : Option (Bool) :=
 (if (x1.Kind != x2.Kind) = true then
 some false
 else
 (if (x1.From != x2.From) = true then
 some false
 else
 (if (x1.To != x2.To) = true then
 some false
 else
 (if (x1.Term != x2.Term) = true then
 some false
 else
 (if (x1.Index != x2.Index) = true then
 some false
 else
 (if (x1.LogTerm != x2.LogTerm) = true then
 some false
 else
 (if (x1.Commit != x2.Commit) = true then
 some false
 else
 (if ((x1.Ok == x2.Ok) ^^ true) = true then
 some false
 else
 (laws_eqEntryS N x1.Entries x2.Entries).bind fun y151 =>
 (if (!y151) = true then
 some false
 else
 (laws_eqIntS N x1.Conf x2.Conf).bind fun y157 =>
 (if (!y157) = true then
 some false
 else
 (if (!decide (x1.Data = x2.Data)) = true then
 some false
 else
 (if ((x1.Last == x2.Last) ^^ true) = true then
 some false
 else
 some true))))))))))))
instance i230 (N : Nat) (x1 : Message) (x2 : Message) : Sem Tryz.prog 83 (laws_eqMessage N x1 x2) [.agg [VI x1.Kind,VI x1.From,VI x1.To,VI x1.Term,VI x1.Index,VI x1.LogTerm,VI x1.Commit,VB x1.Ok,RO 100 (x1.Entries.map encEntry),RO 3 (x1.Conf.map encI),VS x1.Data,VB x1.Last],.agg [VI x2.Kind,VI x2.From,VI x2.To,VI x2.Term,VI x2.Index,VI x2.LogTerm,VI x2.Commit,VB x2.Ok,RO 100 (x2.Entries.map encEntry),RO 3 (x2.Conf.map encI),VS x2.Data,VB x2.Last]] 0 [] (fun r => VB r) (fun r => []) := .st e e Tryz.call83 fun B r => .q e (.a e e (.Ek [] e e e) (.q e (.a e e (.Ek [] e e e) (.q e (.a e e (.Ek [] e e e) (.q e (.a e e (.Ek [] e e e) (.q e (.a e e (.Ek [] e e e) (.q e (.a e e (.Ek [] e e e) (.q e (.a e e (.Ek [] e e e) (.q e (.a e e (.Ek [] e e e) (.q e (.c0 e i q fun _ _ => .a e e (.Ek [] e e e) (.q e (.c0 e i q fun _ _ => .a e e (.Ek [] e e e) (.q e (.a e e (.Ek [] e e e) (.q e (.a e e (.Ek [] e e e) (.Ek [] e e e))))))))))))))))))))))))
def laws_eqMessageS_l1 (N : Nat) (x1 : (List Message)) (x2 : (List Message)) : Nat → Int → Option ((Bool) ⊕ (Unit))
 | 0,_ => none
 | m + 1,x222 =>
 (if (decide (x222 < (x1.length : Int))) = true then
 (at? x1 x222).bind fun x254 =>
 (at? x2 x222).bind fun x255 =>
 (laws_eqMessage N x254 x255).bind fun y256 =>
 (if (!y256) = true then
 some (Sum.inl false)
 else
 laws_eqMessageS_l1 N x1 x2 m (w64 (x222 + 1)))
 else
 some (Sum.inr ()))
def laws_eqMessageS (N : Nat) (x1 : (List Message)) (x2 : (List Message)) : Option (Bool) :=
 (if ((x1.length : Int) != (x2.length : Int)) = true then
 some false
 else
 joinP (fun (v219 : Unit) =>
 some true) fun j219 =>
 (laws_eqMessageS_l1 N x1 x2 N 0).bind (Sum.elim (fun v239 => some v239) (fun (v240 : Unit) => j219 ())))
instance i231 (N : Nat) (x1 : (List Message)) (x2 : (List Message)) : Sem Tryz.prog 37 (laws_eqMessageS N x1 x2) [RO 153 (x1.map (encMessage false)),RO 153 (x2.map (encMessage false))] 0 [] (fun r => VB r) (fun r => []) := .st e e Tryz.call37 fun B r => .q e (.st e (Ev.lnF e) e (.st e (Ev.lnF e) e (.a e e (.Ek [] e e e) (.j e (fun _ => []) (fun _ => []) (fun _ => .L1 e (fun x222 => [(0,RO 153 (x1.map (encMessage false))),(1,RO 153 (x2.map (encMessage false))),(5,VI x222)]) (fun x222 => []) (.k [0,1,5] []) fun _ x222 _ hk240 => .q e (.st e (Ev.lnF e) e (.a e e (.q e (.B fun _ hx254 => .st e (Ev.iaF e e hx254) e (.B fun _ hx255 => .st e (Ev.iaF e e hx255) e (.c0 e i q fun _ _ => .dn e (.a e e (.Xr hk240 e e (.il (.e e (.Ek [] e e e)))) (.R e (fun h => ⟨_,h,e,e⟩) (.k [0,1,5] []))))))) (.X hk240 e e (.ir (.n e (.J e (.k [] [])))))))) fun _ => .Ek [] e e e))))
def laws_eqWait (N : Nat) (x1 : Wait) (x2 : Wait) : Option (Bool) :=
 (if (x1.Node != x2.Node) = true then
 some false
 else
 (if (x1.Index != x2.Index) = true then
 some false
 else
 (if (x1.Term != x2.Term) = true then
 some false
 else
 (if (x1.Call != x2.Call) = true then
 some false
 else
 some true))))
instance i232 (N : Nat) (x1 : Wait) (x2 : Wait) : Sem Tryz.prog 84 (laws_eqWait N x1 x2) [.agg [VI x1.Node,VI x1.Index,VI x1.Term,VI x1.Call],.agg [VI x2.Node,VI x2.Index,VI x2.Term,VI x2.Call]] 0 [] (fun r => VB r) (fun r => []) := .st e e Tryz.call84 fun B r => .q e (.a e e (.Ek [] e e e) (.q e (.a e e (.Ek [] e e e) (.q e (.a e e (.Ek [] e e e) (.q e (.a e e (.Ek [] e e e) (.Ek [] e e e))))))))
def laws_eqWaitS_l1 (N : Nat) (x1 : (List Wait)) (x2 : (List Wait)) : Nat → Int → Option ((Bool) ⊕ (Unit))
 | 0,_ => none
 | m + 1,x222 =>
 (if (decide (x222 < (x1.length : Int))) = true then
 (at? x1 x222).bind fun x254 =>
 (at? x2 x222).bind fun x255 =>
 (laws_eqWait N x254 x255).bind fun y256 =>
 (if (!y256) = true then
 some (Sum.inl false)
 else
 laws_eqWaitS_l1 N x1 x2 m (w64 (x222 + 1)))
 else
 some (Sum.inr ()))
def laws_eqWaitS (N : Nat) (x1 : (List Wait)) (x2 : (List Wait)) : Option (Bool) :=
 (if ((x1.length : Int) != (x2.length : Int)) = true then
 some false
 else
 joinP (fun (v219 : Unit) =>
 some true) fun j219 =>
 (laws_eqWaitS_l1 N x1 x2 N 0).bind (Sum.elim (fun v239 => some v239) (fun (v240 : Unit) => j219 ())))
instance i233 (N : Nat) (x1 : (List Wait)) (x2 : (List Wait)) : Sem Tryz.prog 38 (laws_eqWaitS N x1 x2) [RO 156 (x1.map encWait),RO 156 (x2.map encWait)] 0 [] (fun r => VB r) (fun r => []) := .st e e Tryz.call38 fun B r => .q e (.st e (Ev.lnF e) e (.st e (Ev.lnF e) e (.a e e (.Ek [] e e e) (.j e (fun _ => []) (fun _ => []) (fun _ => .L1 e (fun x222 => [(0,RO 156 (x1.map encWait)),(1,RO 156 (x2.map encWait)),(5,VI x222)]) (fun x222 => []) (.k [0,1,5] []) fun _ x222 _ hk240 => .q e (.st e (Ev.lnF e) e (.a e e (.q e (.B fun _ hx254 => .st e (Ev.iaF e e hx254) e (.B fun _ hx255 => .st e (Ev.iaF e e hx255) e (.c0 e i q fun _ _ => .dn e (.a e e (.Xr hk240 e e (.il (.e e (.Ek [] e e e)))) (.R e (fun h => ⟨_,h,e,e⟩) (.k [0,1,5] []))))))) (.X hk240 e e (.ir (.n e (.J e (.k [] [])))))))) fun _ => .Ek [] e e e))))
def laws_eqLeader (N : Nat) (x1 : Leader) (x2 : Leader) : Option (Bool) :=
 (if (x1.Node != x2.Node) = true then
 some false
 else
 (if (x1.Term != x2.Term) = true then
 some false
 else
 (laws_eqLog N x1.Log x2.Log).bind fun y112 =>
 (if (!y112) = true then
 some false
 else
 some true)))
instance i234 (N : Nat) (x1 : Leader) (x2 : Leader) : Sem Tryz.prog 85 (laws_eqLeader N x1 x2) [.agg [VI x1.Node,VI x1.Term,VI x1.Log.Start,VI x1.Log.StartTerm,RO 100 (x1.Log.Entries.map encEntry)],.agg [VI x2.Node,VI x2.Term,VI x2.Log.Start,VI x2.Log.StartTerm,RO 100 (x2.Log.Entries.map encEntry)]] 0 [] (fun r => VB r) (fun r => []) := .st e e Tryz.call85 fun B r => .q e (.a e e (.Ek [] e e e) (.q e (.a e e (.Ek [] e e e) (.q e (.c0 e i q fun _ _ => .a e e (.Ek [] e e e) (.Ek [] e e e))))))
def laws_eqLeaderS_l1 (N : Nat) (x1 : (List Leader)) (x2 : (List Leader)) : Nat → Int → Option ((Bool) ⊕ (Unit))
 | 0,_ => none
 | m + 1,x222 =>
 (if (decide (x222 < (x1.length : Int))) = true then
 (at? x1 x222).bind fun x254 =>
 (at? x2 x222).bind fun x255 =>
 (laws_eqLeader N x254 x255).bind fun y256 =>
 (if (!y256) = true then
 some (Sum.inl false)
 else
 laws_eqLeaderS_l1 N x1 x2 m (w64 (x222 + 1)))
 else
 some (Sum.inr ()))
def laws_eqLeaderS (N : Nat) (x1 : (List Leader)) (x2 : (List Leader)) : Option (Bool) :=
 (if ((x1.length : Int) != (x2.length : Int)) = true then
 some false
 else
 joinP (fun (v219 : Unit) =>
 some true) fun j219 =>
 (laws_eqLeaderS_l1 N x1 x2 N 0).bind (Sum.elim (fun v239 => some v239) (fun (v240 : Unit) => j219 ())))
instance i235 (N : Nat) (x1 : (List Leader)) (x2 : (List Leader)) : Sem Tryz.prog 39 (laws_eqLeaderS N x1 x2) [RO 160 (x1.map (encLeader false)),RO 160 (x2.map (encLeader false))] 0 [] (fun r => VB r) (fun r => []) := .st e e Tryz.call39 fun B r => .q e (.st e (Ev.lnF e) e (.st e (Ev.lnF e) e (.a e e (.Ek [] e e e) (.j e (fun _ => []) (fun _ => []) (fun _ => .L1 e (fun x222 => [(0,RO 160 (x1.map (encLeader false))),(1,RO 160 (x2.map (encLeader false))),(5,VI x222)]) (fun x222 => []) (.k [0,1,5] []) fun _ x222 _ hk240 => .q e (.st e (Ev.lnF e) e (.a e e (.q e (.B fun _ hx254 => .st e (Ev.iaF e e hx254) e (.B fun _ hx255 => .st e (Ev.iaF e e hx255) e (.c0 e i q fun _ _ => .dn e (.a e e (.Xr hk240 e e (.il (.e e (.Ek [] e e e)))) (.R e (fun h => ⟨_,h,e,e⟩) (.k [0,1,5] []))))))) (.X hk240 e e (.ir (.n e (.J e (.k [] [])))))))) fun _ => .Ek [] e e e))))
def laws_eqApplied (N : Nat) (x1 : Applied) (x2 : Applied) : Option (Bool) :=
 (if (x1.Node != x2.Node) = true then
 some false
 else
 (if (x1.Term != x2.Term) = true then
 some false
 else
 (if (x1.Index != x2.Index) = true then
 some false
 else
 (laws_eqEntry N x1.Entry x2.Entry).bind fun y116 =>
 (if (!y116) = true then
 some false
 else
 some true))))
instance i236 (N : Nat) (x1 : Applied) (x2 : Applied) : Sem Tryz.prog 86 (laws_eqApplied N x1 x2) [.agg [VI x1.Node,VI x1.Term,VI x1.Index,VI x1.Entry.Term,VI x1.Entry.Kind,VS x1.Entry.Data],.agg [VI x2.Node,VI x2.Term,VI x2.Index,VI x2.Entry.Term,VI x2.Entry.Kind,VS x2.Entry.Data]] 0 [] (fun r => VB r) (fun r => []) := .st e e Tryz.call86 fun B r => .q e (.a e e (.Ek [] e e e) (.q e (.a e e (.Ek [] e e e) (.q e (.a e e (.Ek [] e e e) (.q e (.c0 e i q fun _ _ => .a e e (.Ek [] e e e) (.Ek [] e e e))))))))
def laws_eqAppliedS_l1 (N : Nat) (x1 : (List Applied)) (x2 : (List Applied)) : Nat → Int → Option ((Bool) ⊕ (Unit))
 | 0,_ => none
 | m + 1,x222 =>
 (if (decide (x222 < (x1.length : Int))) = true then
 (at? x1 x222).bind fun x254 =>
 (at? x2 x222).bind fun x255 =>
 (laws_eqApplied N x254 x255).bind fun y256 =>
 (if (!y256) = true then
 some (Sum.inl false)
 else
 laws_eqAppliedS_l1 N x1 x2 m (w64 (x222 + 1)))
 else
 some (Sum.inr ()))
def laws_eqAppliedS (N : Nat) (x1 : (List Applied)) (x2 : (List Applied)) : Option (Bool) :=
 (if ((x1.length : Int) != (x2.length : Int)) = true then
 some false
 else
 joinP (fun (v219 : Unit) =>
 some true) fun j219 =>
 (laws_eqAppliedS_l1 N x1 x2 N 0).bind (Sum.elim (fun v239 => some v239) (fun (v240 : Unit) => j219 ())))
instance i237 (N : Nat) (x1 : (List Applied)) (x2 : (List Applied)) : Sem Tryz.prog 40 (laws_eqAppliedS N x1 x2) [RO 102 (x1.map encApplied),RO 102 (x2.map encApplied)] 0 [] (fun r => VB r) (fun r => []) := .st e e Tryz.call40 fun B r => .q e (.st e (Ev.lnF e) e (.st e (Ev.lnF e) e (.a e e (.Ek [] e e e) (.j e (fun _ => []) (fun _ => []) (fun _ => .L1 e (fun x222 => [(0,RO 102 (x1.map encApplied)),(1,RO 102 (x2.map encApplied)),(5,VI x222)]) (fun x222 => []) (.k [0,1,5] []) fun _ x222 _ hk240 => .q e (.st e (Ev.lnF e) e (.a e e (.q e (.B fun _ hx254 => .st e (Ev.iaF e e hx254) e (.B fun _ hx255 => .st e (Ev.iaF e e hx255) e (.c0 e i q fun _ _ => .dn e (.a e e (.Xr hk240 e e (.il (.e e (.Ek [] e e e)))) (.R e (fun h => ⟨_,h,e,e⟩) (.k [0,1,5] []))))))) (.X hk240 e e (.ir (.n e (.J e (.k [] [])))))))) fun _ => .Ek [] e e e))))
def laws_eqCommand (N : Nat) (x1 : Command) (x2 : Command) : Option (Bool) :=
 (if (x1.Op != x2.Op) = true then
 some false
 else
 (if (x1.Session != x2.Session) = true then
 some false
 else
 (if (x1.Seq != x2.Seq) = true then
 some false
 else
 (if (!decide (x1.Key = x2.Key)) = true then
 some false
 else
 (if (!decide (x1.Value = x2.Value)) = true then
 some false
 else
 (if (!decide (x1.Old = x2.Old)) = true then
 some false
 else
 some true))))))
instance i238 (N : Nat) (x1 : Command) (x2 : Command) : Sem Tryz.prog 156 (laws_eqCommand N x1 x2) [.agg [VI x1.Op,VI x1.Session,VI x1.Seq,VS x1.Key,VS x1.Value,VS x1.Old],.agg [VI x2.Op,VI x2.Session,VI x2.Seq,VS x2.Key,VS x2.Value,VS x2.Old]] 0 [] (fun r => VB r) (fun r => []) := .st e e Tryz.call156 fun B r => .q e (.a e e (.Ek [] e e e) (.q e (.a e e (.Ek [] e e e) (.q e (.a e e (.Ek [] e e e) (.q e (.a e e (.Ek [] e e e) (.q e (.a e e (.Ek [] e e e) (.q e (.a e e (.Ek [] e e e) (.Ek [] e e e))))))))))))
def laws_eqReply (N : Nat) (x1 : Reply) (x2 : Reply) : Option (Bool) :=
 (if (x1.Call != x2.Call) = true then
 some false
 else
 (if (x1.Index != x2.Index) = true then
 some false
 else
 (laws_eqCommand N x1.Command x2.Command).bind fun y119 =>
 (if (!y119) = true then
 some false
 else
 (if (!decide (x1.Text = x2.Text)) = true then
 some false
 else
 some true))))
instance i239 (N : Nat) (x1 : Reply) (x2 : Reply) : Sem Tryz.prog 87 (laws_eqReply N x1 x2) [.agg [VI x1.Call,VI x1.Index,VI x1.Command.Op,VI x1.Command.Session,VI x1.Command.Seq,VS x1.Command.Key,VS x1.Command.Value,VS x1.Command.Old,VS x1.Text],.agg [VI x2.Call,VI x2.Index,VI x2.Command.Op,VI x2.Command.Session,VI x2.Command.Seq,VS x2.Command.Key,VS x2.Command.Value,VS x2.Command.Old,VS x2.Text]] 0 [] (fun r => VB r) (fun r => []) := .st e e Tryz.call87 fun B r => .q e (.a e e (.Ek [] e e e) (.q e (.a e e (.Ek [] e e e) (.q e (.c0 e i q fun _ _ => .a e e (.Ek [] e e e) (.q e (.a e e (.Ek [] e e e) (.Ek [] e e e))))))))
def laws_eqReplyS_l1 (N : Nat) (x1 : (List Reply)) (x2 : (List Reply)) : Nat → Int → Option ((Bool) ⊕ (Unit))
 | 0,_ => none
 | m + 1,x222 =>
 (if (decide (x222 < (x1.length : Int))) = true then
 (at? x1 x222).bind fun x254 =>
 (at? x2 x222).bind fun x255 =>
 (laws_eqReply N x254 x255).bind fun y256 =>
 (if (!y256) = true then
 some (Sum.inl false)
 else
 laws_eqReplyS_l1 N x1 x2 m (w64 (x222 + 1)))
 else
 some (Sum.inr ()))
def laws_eqReplyS (N : Nat) (x1 : (List Reply)) (x2 : (List Reply)) : Option (Bool) :=
 (if ((x1.length : Int) != (x2.length : Int)) = true then
 some false
 else
 joinP (fun (v219 : Unit) =>
 some true) fun j219 =>
 (laws_eqReplyS_l1 N x1 x2 N 0).bind (Sum.elim (fun v239 => some v239) (fun (v240 : Unit) => j219 ())))
instance i240 (N : Nat) (x1 : (List Reply)) (x2 : (List Reply)) : Sem Tryz.prog 41 (laws_eqReplyS N x1 x2) [RO 165 (x1.map encReply),RO 165 (x2.map encReply)] 0 [] (fun r => VB r) (fun r => []) := .st e e Tryz.call41 fun B r => .q e (.st e (Ev.lnF e) e (.st e (Ev.lnF e) e (.a e e (.Ek [] e e e) (.j e (fun _ => []) (fun _ => []) (fun _ => .L1 e (fun x222 => [(0,RO 165 (x1.map encReply)),(1,RO 165 (x2.map encReply)),(5,VI x222)]) (fun x222 => []) (.k [0,1,5] []) fun _ x222 _ hk240 => .q e (.st e (Ev.lnF e) e (.a e e (.q e (.B fun _ hx254 => .st e (Ev.iaF e e hx254) e (.B fun _ hx255 => .st e (Ev.iaF e e hx255) e (.c0 e i q fun _ _ => .dn e (.a e e (.Xr hk240 e e (.il (.e e (.Ek [] e e e)))) (.R e (fun h => ⟨_,h,e,e⟩) (.k [0,1,5] []))))))) (.X hk240 e e (.ir (.n e (.J e (.k [] [])))))))) fun _ => .Ek [] e e e))))
def laws_eqWorld (N : Nat) (x1 : World) (x2 : World) : Option (Bool) :=
 (laws_eqBoolS N x1.Up x2.Up).bind fun y143 =>
 (if (!y143) = true then
 some false
 else
 (laws_eqServerS N x1.Servers x2.Servers).bind fun y149 =>
 (if (!y149) = true then
 some false
 else
 (laws_eqMessageS N x1.Net x2.Net).bind fun y155 =>
 (if (!y155) = true then
 some false
 else
 (laws_eqWaitS N x1.Waits x2.Waits).bind fun y161 =>
 (if (!y161) = true then
 some false
 else
 (laws_eqLeaderS N x1.Leaders x2.Leaders).bind fun y167 =>
 (if (!y167) = true then
 some false
 else
 (laws_eqAppliedS N x1.Applied x2.Applied).bind fun y173 =>
 (if (!y173) = true then
 some false
 else
 (laws_eqReplyS N x1.Replies x2.Replies).bind fun y176 =>
 (if (!y176) = true then
 some false
 else
 some true)))))))
instance i241 (N : Nat) (x1 : World) (x2 : World) : Sem Tryz.prog 9 (laws_eqWorld N x1 x2) [.agg [RO 4 (x1.Up.map encB),RO 70 (x1.Servers.map (encServer false)),RO 153 (x1.Net.map (encMessage false)),RO 156 (x1.Waits.map encWait),RO 160 (x1.Leaders.map (encLeader false)),RO 102 (x1.Applied.map encApplied),RO 165 (x1.Replies.map encReply)],.agg [RO 4 (x2.Up.map encB),RO 70 (x2.Servers.map (encServer false)),RO 153 (x2.Net.map (encMessage false)),RO 156 (x2.Waits.map encWait),RO 160 (x2.Leaders.map (encLeader false)),RO 102 (x2.Applied.map encApplied),RO 165 (x2.Replies.map encReply)]] 0 [] (fun r => VB r) (fun r => []) := .st e e Tryz.call9 fun B r => .q e (.c0 e i q fun _ _ => .a e e (.Ek [] e e e) (.q e (.c0 e i q fun _ _ => .a e e (.Ek [] e e e) (.q e (.c0 e i q fun _ _ => .a e e (.Ek [] e e e) (.q e (.c0 e i q fun _ _ => .a e e (.Ek [] e e e) (.q e (.c0 e i q fun _ _ => .a e e (.Ek [] e e e) (.q e (.c0 e i q fun _ _ => .a e e (.Ek [] e e e) (.q e (.c0 e i q fun _ _ => .a e e (.Ek [] e e e) (.Ek [] e e e))))))))))))))
def laws_FnExactFolded (N : Nat) (x1 : World) (x2 : Int) : Option (Bool) :=
 (laws_szWorld N x1 1048576).bind fun y132 =>
 (if (decide (y132 < 0)) = true then
 some true
 else
 (laws_toWorld N x1).bind fun y141 =>
 (spec_Folded N y141 x2).bind fun y142 =>
 (laws_toWorld N x1).bind fun y146 =>
 (impl_Folded N y146 x2).bind fun y150 =>
 (if ((y150 == y142) ^^ true) = true then
 some false
 else
 (laws_toWorld N x1).bind fun y155 =>
 (laws_eqWorld N y146 y155).bind fun y156 =>
 (if (!y156) = true then
 some false
 else
 some true)))
instance i242 (N : Nat) (x1 : World) (x2 : Int) : Sem Tryz.prog 3 (laws_FnExactFolded N x1 x2) [.agg [RO 4 (x1.Up.map encB),RO 118 (x1.Servers.map (encServerL false)),RO 121 (x1.Net.map (encMessageL false)),RO 158 (x1.Waits.map encWait),RO 124 (x1.Leaders.map (encLeaderL false)),RO 128 (x1.Applied.map encApplied),RO 133 (x1.Replies.map encReply)],VI x2] 0 [] (fun r => VB r) (fun r => []) := .st e e Tryz.call3 fun B r => .c0 e i q fun _ _ => .q e (.a e e (.Ek [] e e e) (.f [] [] 7 e i q fun _ _ => .f (hp := (.cons (.agg (.cons (.borrow e (by decide) (lendW (fun _ => e) _ e)) (.cons (.borrow e (by decide) (lendW ro_encServer _ e)) (.cons (.borrow e (by decide) (lendW ro_encMessage _ e)) (.cons (.borrow e (by decide) (lendW (fun _ => e) _ e)) (.cons (.borrow e (by decide) (lendW ro_encLeader _ e)) (.cons (.borrow e (by decide) (lendW (fun _ => e) _ e)) (.cons (.borrow e (by decide) (lendW (fun _ => e) _ e)) .nil)))))))) (.d1 .nil))) (hcase := fun _ => (.inr ⟨rfl,ownL_root trivial⟩)) [] [21496,21497,21498,21499,21500,21501,21502] 0 e i q fun _ _ => .f [] [] 7 e i q fun _ _ => .f (hp := (.cons (.agg (.cons (.borrow e (by decide) (lendW (fun _ => e) _ e)) (.cons (.borrow e (by decide) (lendW ro_encServer _ e)) (.cons (.borrow e (by decide) (lendW ro_encMessage _ e)) (.cons (.borrow e (by decide) (lendW (fun _ => e) _ e)) (.cons (.borrow e (by decide) (lendW ro_encLeader _ e)) (.cons (.borrow e (by decide) (lendW (fun _ => e) _ e)) (.cons (.borrow e (by decide) (lendW (fun _ => e) _ e)) .nil)))))))) (.d1 .nil))) (hcase := fun _ => (.inr ⟨rfl,ownL_root trivial⟩)) [] [25592,25593,25594,25595,25596,25597,25598] 0 e i q fun _ _ => .q e (.a e e (.Ek [] e e e) (.q e (.f [] [] 7 e i q fun _ _ => .f (hp := (.cons (.agg (.cons (.borrow e (by decide) (lendW (fun _ => e) _ e)) (.cons (.borrow e (by decide) (lendW ro_encServer _ e)) (.cons (.borrow e (by decide) (lendW ro_encMessage _ e)) (.cons (.borrow e (by decide) (lendW (fun _ => e) _ e)) (.cons (.borrow e (by decide) (lendW ro_encLeader _ e)) (.cons (.borrow e (by decide) (lendW (fun _ => e) _ e)) (.cons (.borrow e (by decide) (lendW (fun _ => e) _ e)) .nil)))))))) (.cons (.agg (.cons (.borrow e (by decide) (lendW (fun _ => e) _ e)) (.cons (.borrow e (by decide) (lendW ro_encServer _ e)) (.cons (.borrow e (by decide) (lendW ro_encMessage _ e)) (.cons (.borrow e (by decide) (lendW (fun _ => e) _ e)) (.cons (.borrow e (by decide) (lendW ro_encLeader _ e)) (.cons (.borrow e (by decide) (lendW (fun _ => e) _ e)) (.cons (.borrow e (by decide) (lendW (fun _ => e) _ e)) .nil)))))))) .nil))) (hcase := fun _ => (.inr ⟨rfl,ownL_root trivial⟩)) [] [25592,25593,25594,25595,25596,25597,25598,41992,41993,41994,41995,41996,41997,41998] 0 e i q fun _ _ => .dn e (.a e e (.Ek [] e e e) (.Ek [] e e e)))))))
end Go.Proofs.YthfjkhlgkjgkjaaGreatDoor.Pe.FnExactFolded
