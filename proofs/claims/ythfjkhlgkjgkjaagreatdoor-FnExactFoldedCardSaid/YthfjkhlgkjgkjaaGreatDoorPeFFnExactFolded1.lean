/- Functions,as pure functions; and that Go does just that. -/
import Derived.Test.YthfjkhlgkjgkjaaGreatDoorPeFFnExactFolded0
namespace Go.Proofs.YthfjkhlgkjgkjaaGreatDoor.Pe.FnExactFolded
open Go Go.RowKit
set_option linter.unusedVariables false
set_option linter.unusedSimpArgs false
set_option maxHeartbeats 40000000
set_option maxRecDepth 100000
def spec_l05Short (N : Nat) (x1 : ByteArray) : Option (ByteArray) :=
 (spec_l01Var N (x1.size : Int)).bind fun y106 =>
 (scat? y106 x1).bind fun x107 =>
 some x107
instance i83 (N : Nat) (x1 : ByteArray) : Sem Tryz.prog 173 (spec_l05Short N x1) [VS x1] 0 [] (fun r => VS r) (fun r => []) := .st e e Tryz.call173 fun B r => .c0 e i q fun _ _ => .B fun _ hx107 => .st e (Ev.addS e e hx107) e (.Ek [] e e e)
def spec_BatchText_l1 (N : Nat) (x1 : Batch) : Nat → ByteArray → Int → Option (ByteArray)
 | 0,_,_ => none
 | m + 1,x420,x421 =>
 (if (decide (x421 < (x1.Changes.length : Int))) = true then
 joinP (fun (v496 : ByteArray) =>
 (at? x1.Changes x421).bind fun x507 =>
 (spec_l05Short N x507.Key).bind fun y508 =>
 (scat? x420 y508).bind fun x509 =>
 (scat? x509 v496).bind fun x510 =>
 (at? x1.Changes x421).bind fun x511 =>
 (spec_l05Short N x511.Value).bind fun y512 =>
 (scat? x510 y512).bind fun x513 =>
 spec_BatchText_l1 N x1 m x513 (w64 (x421 + 1))) fun j496 =>
 (at? x1.Changes x421).bind fun x498 =>
 (if x498.Gone = true then
 j496 (⟨#[1]⟩ : ByteArray)
 else
 j496 (⟨#[0]⟩ : ByteArray))
 else
 some x420)
def spec_BatchText (N : Nat) (x1 : Batch) : Option (ByteArray × Bool) :=
 (spec_BatchOk N x1).bind fun y311 =>
 (if (!y311) = true then
 some ((⟨#[]⟩ : ByteArray),false)
 else
 (spec_l01Var N x1.Stamp).bind fun y322 =>
 (spec_l01Var N (x1.Changes.length : Int)).bind fun y323 =>
 (scat? y322 y323).bind fun x324 =>
 joinP (fun (v419 : ByteArray) =>
 some (v419,true)) fun j419 =>
 (spec_BatchText_l1 N x1 N x324 0).bind (fun v468 => j419 v468))
instance i84 (N : Nat) (x1 : Batch) : Sem Tryz.prog 227 (spec_BatchText N x1) [.agg [VI x1.Stamp,RO 268 (x1.Changes.map encChange)]] 0 [] (fun r => .tup [VS r.1,VB r.2]) (fun r => []) := .st e e Tryz.call227 fun B r => .q e (.c0 e i q fun _ _ => .a e e (.Ek [] e e e) (.c0 e i q fun _ _ => .st e (Ev.lnF e) e (.c0 e i q fun _ _ => .B fun _ hx324 => .st e (Ev.addS e e hx324) e (.dn e (.j e (fun v419 => [(4,VS v419)]) (fun v419 => []) (fun _ => .L2 e (fun x420 x421 => [(1,.ptr 0 0),(4,VS x420),(5,VI x421)]) (fun x420 x421 => [(0,.box [VI x1.Stamp,RO 268 (x1.Changes.map encChange)])]) (.k [1,4,5] [1000]) fun _ x420 x421 _ hk468 => .q e (.st e (Ev.lnF e) e (.a e e (.q e (.j e (fun v496 => [(1,.ptr 0 0),(4,VS x420),(5,VI x421),(6,VS v496)]) (fun v496 => [(0,.box [VI x1.Stamp,RO 268 (x1.Changes.map encChange)])]) (fun _ => .B fun _ hx498 => .st e (Ev.iaF e e hx498) e (.a e e (.J e (.k [1,4,5,6] [0])) (.J e (.k [1,4,5,6] [0])))) fun v496 => .B fun _ hx507 => .st e (Ev.iaF e e hx507) e (.c0 e i q fun _ _ => .B fun _ hx509 => .st e (Ev.addS e e hx509) e (.B fun _ hx510 => .st e (Ev.addS e e hx510) e (.B fun _ hx511 => .st e (Ev.iaF e e hx511) e (.c0 e i q fun _ _ => .B fun _ hx513 => .st e (Ev.addS e e hx513) e (.dn e (.R e (fun h => ⟨_,_,h,e,e⟩) (.k [1,4,5] [0]))))))))) (.X hk468 e e (.n e (.J e (.k [4] []))))))) fun v419 => .Ek [] e e e)))))
def spec_ReadBatch_l1 (N : Nat) (y290 : Int × Tl05Cur) : Nat → Int → ByteArray → Int → Bool → (List Change) → Option (ByteArray × Int × Bool × (List Change))
 | 0,_,_,_,_,_ => none
 | m + 1,x374,x376,x377,x378,x381 =>
 (if (decide (x374 < y290.1)) = true then
 (if (!x378) = true then
 (spec_l05ReadShort N (Tl05Cur.mk x376 x377 x378)).bind fun y441 =>
 (spec_l05Take N y441.2 1).bind fun y445 =>
 (spec_l05ReadShort N y445.2).bind fun y449 =>
 (cat? x381 ([(Change.mk y441.1 y449.1 (decide (y445.1 = (⟨#[1]⟩ : ByteArray))))] : List Change)).bind fun x451 =>
 spec_ReadBatch_l1 N y290 m (w64 (x374 + 1)) y449.2.text y449.2.at' y449.2.bad x451
 else
 some (x376,x377,x378,x381))
 else
 some (x376,x377,x378,x381))
def spec_ReadBatch (N : Nat) (x1 : ByteArray) : Option (Batch × Bool) :=
 (spec_l05Var N (Tl05Cur.mk x1 0 false)).bind fun y286 =>
 (spec_l05Var N y286.2).bind fun y290 =>
 joinP (fun (v371 : ByteArray × Int × Bool × (List Change)) =>
 (spec_BatchText N (Batch.mk y286.1 v371.2.2.2)).bind fun y455 =>
 (if v371.2.2.1 = true then
 some ((Batch.mk 0 ([])),false)
 else
 (if (!y455.2) = true then
 some ((Batch.mk 0 ([])),false)
 else
 (if (!decide (y455.1 = x1)) = true then
 some ((Batch.mk 0 ([])),false)
 else
 some ((Batch.mk y286.1 v371.2.2.2),true))))) fun j371 =>
 (spec_ReadBatch_l1 N y290 N 0 y290.2.text y290.2.at' y290.2.bad ([] : (List Change))).bind (fun v416 => j371 (v416.1,v416.2.1,v416.2.2.1,v416.2.2.2))
instance i85 (N : Nat) (x1 : ByteArray) : Sem Tryz.prog 171 (spec_ReadBatch N x1) [VS x1] 0 [] (fun r => .tup [.agg [VI r.1.Stamp,.sl 0 268 0 r.1.Changes.length],VB r.2]) (fun r => [(0,.vec 268 (r.1.Changes.map encChange))]) := .st e e Tryz.call171 fun B r => .f [5128] [] 0 e i q fun y286 _ => .f [5128] [] 0 e i q fun y290 _ => .j e (fun v371 => [(0,VS x1),(2,.ptr 0 0),(4,.ptr 1 0),(5,.ptr 2 0)]) (fun v371 => [(0,.box [VI 0,.sl 3 268 0 (([] : (List Change)).length)]),(1,.box [VS v371.1,VI v371.2.1,VB v371.2.2.1]),(2,.box [VI y286.1,.sl 4 268 0 v371.2.2.2.length]),(3,.vec 268 (([] : (List Change)).map encChange)),(4,.vec 268 (v371.2.2.2.map encChange))]) (fun _ => .L5 e (fun x374 x376 x377 x378 x381 => [(0,VS x1),(2,.ptr 0 0),(4,.ptr 1 0),(5,.ptr 2 0),(6,VI y290.1),(7,VI x374)]) (fun x374 x376 x377 x378 x381 => [(0,.box [VI 0,.sl 3 268 0 (([] : (List Change)).length)]),(1,.box [VS x376,VI x377,VB x378]),(2,.box [VI y286.1,.sl 4 268 0 x381.length]),(3,.vec 268 (([] : (List Change)).map encChange)),(4,.vec 268 (x381.map encChange))]) (.n [0,2,4,5,6,7] [1000,5128,9208] [] [1000,9208] [1000,5128,9208,20000000,20000064]) fun _ x374 x376 x377 x378 x381 _ hk416 => .q e (.q e (.a e e (.a e e (.f [1] [] 0 e i q fun y441 _ => .f [1] [] 0 e i q fun y445 _ => .f [1] [] 0 e i q fun y449 _ => .st e (Ev.bsW (ys := ([(Change.mk y441.1 y449.1 (decide (y445.1 = (⟨#[1]⟩ : ByteArray))))] : List Change)) (f := encChange) e (.d2 (.d1 .nil)) e e e e e) e (.B fun _ hx451 => .st e (Ev.apW (f := encChange) (ontoW e e e) (addsW e e e (fun _ => e)) e bt268 e hx451) e (.R e (fun h => ⟨_,_,_,_,_,h,e,e⟩) (.k [0,2,4,5,6,7] [0,1,2,3,50216])))) (.X hk416 e e (.n e (.J e (.k [0,2,4,5] [0,1,2,3,4]))))) (.X hk416 e e (.n e (.J e (.k [0,2,4,5] [0,1,2,3,4]))))))) fun v371 => .f (hp := (.cons (.agg (.d1 (.cons (.borrow e (by decide) (lendW (fun _ => e) _ e)) .nil))) .nil)) (hcase := fun _ => (.inr ⟨rfl,ownL_root trivial⟩)) [] [4] 0 e i q fun _ _ => .q e (.q e (.a e e (.E e e (.n [0,1] [] [0] [] [10000000])) (.a e e (.E e e (.n [0,1] [] [0] [] [10000000])) (.a e e (.E e e (.n [0,1] [] [0] [] [10000000])) (.Ek [4] e e e)))))
def spec_ScanSeg_l2 (N : Nat) (x2 : Int) (y4111 : Batch × Bool) : Nat → Int → Int → (List Spot) → Option ((List Spot))
 | 0,_,_,_ => none
 | m + 1,x4250,x4251,x4252 =>
 (if (decide (x4251 < ((y4111.1.Changes.length : Nat) : Int))) = true then
 (at? y4111.1.Changes x4251).bind fun x4335 =>
 (spec_l05Short N x4335.Key).bind fun y4342 =>
 (spec_l01Var N (x4335.Value.size : Int)).bind fun y4343 =>
 joinP (fun (v4349 : (List Spot)) =>
 spec_ScanSeg_l2 N x2 y4111 m (w64 ((w64 ((w64 ((w64 (x4250 + (y4342.size : Int))) + 1)) + (y4343.size : Int))) + (x4335.Value.size : Int))) (w64 (x4251 + 1)) v4349) fun j4349 =>
 (if x4335.Gone = true then
 (cat? x4252 ([(Spot.mk x4335.Key x2 0 (-1 : Int))] : List Spot)).bind fun x4352 =>
 j4349 x4352
 else
 (cat? x4252 ([(Spot.mk x4335.Key x2 (w64 ((w64 ((w64 (x4250 + (y4342.size : Int))) + 1)) + (y4343.size : Int))) (x4335.Value.size : Int))] : List Spot)).bind fun x4354 =>
 j4349 x4354)
 else
 some x4252)
def spec_ScanSeg_l1 (N : Nat) (x2 : Int) (y2236 : (List ByteArray) × Int) : Nat → Int → Int → Int → (List Spot) → (List ByteArray) → Option (((List Spot) × (List ByteArray) × Int) ⊕ (Int × (List Spot) × (List ByteArray)))
 | 0,_,_,_,_,_ => none
 | m + 1,x3303,x3304,x3305,x3306,x3307 =>
 (if (decide (x3305 < ((y2236.1.length : Nat) : Int))) = true then
 joinP (fun (v4103 : Int × Int × (List Spot) × (List ByteArray)) =>
 spec_ScanSeg_l1 N x2 y2236 m v4103.1 v4103.2.1 (w64 (x3305 + 1)) v4103.2.2.1 v4103.2.2.2) fun j4103 =>
 (at? y2236.1 x3305).bind fun x4110 =>
 (spec_ReadBatch N x4110).bind fun y4111 =>
 (if (!y4111.2) = true then
 some (Sum.inl (x3306,x3307,x3303))
 else
 (at? y2236.1 x3305).bind fun x4120 =>
 (spec_Frame N x4120).bind fun y4121 =>
 (at? y2236.1 x3305).bind fun x4131 =>
 (spec_l01Var N y4111.1.Stamp).bind fun y4132 =>
 (spec_l01Var N ((y4111.1.Changes.length : Nat) : Int)).bind fun y4133 =>
 joinP (fun (v4244 : (List Spot)) =>
 joinP (fun (v4356 : Int) =>
 (at? y2236.1 x3305).bind fun x4364 =>
 (cat? x3307 ([x4364] : List ByteArray)).bind fun x4365 =>
 j4103 (v4356,w64 (x3304 + (y4121.1.size : Int)),v4244,x4365)) fun j4356 =>
 (if (decide (y4111.1.Stamp > x3303)) = true then
 j4356 y4111.1.Stamp
 else
 j4356 x3303)) fun j4244 =>
 (spec_ScanSeg_l2 N x2 y4111 N (w64 ((w64 ((w64 ((w64 (x3304 + (y4121.1.size : Int))) - (x4131.size : Int))) + (y4132.size : Int))) + (y4133.size : Int))) 0 x3306).bind (fun v4305 => j4244 v4305))
 else
 some (Sum.inr (x3303,x3306,x3307)))
def spec_ScanSeg (N : Nat) (x1 : ByteArray) (x2 : Int) : Option ((List Spot) × (List ByteArray) × Int) :=
 (spec_Unframe N x1).bind fun y2236 =>
 joinP (fun (v3301 : Int × (List Spot) × (List ByteArray)) =>
 some (v3301.2.1,v3301.2.2,v3301.1)) fun j3301 =>
 (spec_ScanSeg_l1 N x2 y2236 N (-1 : Int) 0 0 ([] : List Spot) ([] : List ByteArray)).bind (Sum.elim (fun v3836 => some v3836) (fun (v3837 : Int × (List Spot) × (List ByteArray)) => j3301 (v3837.1,v3837.2.1,v3837.2.2)))
instance i86 (N : Nat) (x1 : ByteArray) (x2 : Int) : Sem Tryz.prog 109 (spec_ScanSeg N x1 x2) [VS x1,VI x2] 0 [] (fun r => .tup [.sl 0 148 0 r.1.length,.sl 1 9 0 r.2.1.length,VI r.2.2]) (fun r => [(0,.vec 148 (r.1.map encSpot)),(1,.vec 9 (r.2.1.map encS))]) := .st e e Tryz.call109 fun B r => .st e (Ev.bsW (ys := ([] : List Spot)) (f := encSpot) e .nil e e e e e) e (.st e (Ev.bsW (ys := ([] : List ByteArray)) (f := encS) e .nil e e e e e) e (.c1 e i q fun y2236 _ => .j e (fun v3301 => [(7,.sl 0 148 0 v3301.2.1.length),(8,.sl 1 9 0 v3301.2.2.length),(9,VI v3301.1)]) (fun v3301 => [(0,.vec 148 (v3301.2.1.map encSpot)),(1,.vec 9 (v3301.2.2.map encS))]) (fun _ => .L5 e (fun x3303 x3304 x3305 x3306 x3307 => [(1,VI x2),(7,.sl 0 148 0 x3306.length),(8,.sl 1 9 0 x3307.length),(9,VI x3303),(10,.sl 2 9 0 y2236.1.length),(12,VI x3304),(13,VI x3305)]) (fun x3303 x3304 x3305 x3306 x3307 => [(0,.vec 148 (x3306.map encSpot)),(1,.vec 9 (x3307.map encS)),(2,.vec 9 (y2236.1.map encS))]) (.k [1,7,8,9,10,12,13] [5096,9192,17400]) fun _ x3303 x3304 x3305 x3306 x3307 _ hk3837 => .q e (.a e e (.j e (fun v4103 => [(1,VI x2),(7,.sl 0 148 0 v4103.2.2.1.length),(8,.sl 1 9 0 v4103.2.2.2.length),(9,VI v4103.1),(10,.sl 2 9 0 y2236.1.length),(12,VI v4103.2.1),(13,VI x3305)]) (fun v4103 => [(0,.vec 148 (v4103.2.2.1.map encSpot)),(1,.vec 9 (v4103.2.2.2.map encS)),(2,.vec 9 (y2236.1.map encS))]) (fun _ => .B fun _ hx4110 => .st e (Ev.iaW e e e hx4110) e (.st e (Ev.ldE (f := encS) e e (at_some hx4110).2 e e e) e (.c1 e i q fun y4111 _ => .q e (.a e e (.Xr hk3837 e e (.il (.e e (.Ek [0,1] e e e)))) (.B fun _ hx4120 => .st e (Ev.iaW e e e hx4120) e (.st e (Ev.ldE (f := encS) e e (at_some hx4120).2 e e e) e (.c0 e i q fun y4121 _ => .B fun _ hx4131 => .st e (Ev.iaW e e e hx4131) e (.st e (Ev.ldE (f := encS) e e (at_some hx4131).2 e e e) e (.c0 e i q fun _ _ => .c0 e i q fun _ _ => .dn e (.j e (fun v4244 => [(1,VI x2),(7,.sl 0 148 0 v4244.length),(8,.sl 1 9 0 x3307.length),(9,VI x3303),(10,.sl 2 9 0 y2236.1.length),(12,VI x3304),(13,VI x3305),(14,.ptr 3 0),(16,VS y4121.1)]) (fun v4244 => [(0,.vec 148 (v4244.map encSpot)),(1,.vec 9 (x3307.map encS)),(2,.vec 9 (y2236.1.map encS)),(3,.box [VI y4111.1.Stamp,.sl 4 268 0 y4111.1.Changes.length]),(4,.vec 268 (y4111.1.Changes.map encChange))]) (fun _ => .L3 e (fun x4250 x4251 x4252 => [(1,VI x2),(7,.sl 0 148 0 x4252.length),(8,.sl 1 9 0 x3307.length),(9,VI x3303),(10,.sl 2 9 0 y2236.1.length),(12,VI x3304),(13,VI x3305),(14,.ptr 3 0),(16,VS y4121.1),(18,VI x4250),(19,VI x4251)]) (fun x4250 x4251 x4252 => [(0,.vec 148 (x4252.map encSpot)),(1,.vec 9 (x3307.map encS)),(2,.vec 9 (y2236.1.map encS)),(3,.box [VI y4111.1.Stamp,.sl 4 268 0 y4111.1.Changes.length]),(4,.vec 268 (y4111.1.Changes.map encChange))]) (.k [1,7,8,9,10,12,13,14,16,18,19] [0,1,2,37992,37928]) fun _ x4250 x4251 x4252 _ hk4305 => .q e (.a e e (.q e (.B fun x4335 hx4335 => .st e (Ev.iaW e e e hx4335) e (.st e (Ev.ldE (f := encChange) e e (at_some hx4335).2 e e e) e (.c0 e i q fun y4342 _ => .c0 e i q fun y4343 _ => .dn e (.j e (fun v4349 => [(1,VI x2),(7,.sl 0 148 0 v4349.length),(8,.sl 1 9 0 x3307.length),(9,VI x3303),(10,.sl 2 9 0 y2236.1.length),(12,VI x3304),(13,VI x3305),(14,.ptr 3 0),(16,VS y4121.1),(18,VI (w64 ((w64 ((w64 (x4250 + (y4342.size : Int))) + 1)) + (y4343.size : Int)))),(19,VI x4251),(20,.ptr 4 0)]) (fun v4349 => [(0,.vec 148 (v4349.map encSpot)),(1,.vec 9 (x3307.map encS)),(2,.vec 9 (y2236.1.map encS)),(3,.box [VI y4111.1.Stamp,.sl 5 268 0 y4111.1.Changes.length]),(4,.box [VS x4335.Key,VS x4335.Value,VB x4335.Gone]),(5,.vec 268 (y4111.1.Changes.map encChange))]) (fun _ => .a e e (.st e (Ev.bsW (ys := ([(Spot.mk x4335.Key x2 0 (-1 : Int))] : List Spot)) (f := encSpot) e (.d4 .nil) e e e e e) e (.B fun _ hx4352 => .st e (Ev.apW (f := encSpot) (ontoW e e e) (addsW e e e (fun _ => e)) e bt148 e hx4352) e (.J e (.k [1,7,8,9,10,12,13,14,16,18,19,20] [83016,1,2,3,70712,4])))) (.st e (Ev.bsW (ys := ([(Spot.mk x4335.Key x2 (w64 ((w64 ((w64 (x4250 + (y4342.size : Int))) + 1)) + (y4343.size : Int))) (x4335.Value.size : Int))] : List Spot)) (f := encSpot) e (.d4 .nil) e e e e e) e (.B fun _ hx4354 => .st e (Ev.apW (f := encSpot) (ontoW e e e) (addsW e e e (fun _ => e)) e bt148 e hx4354) e (.J e (.k [1,7,8,9,10,12,13,14,16,18,19,20] [87176,1,2,3,70712,4]))))) fun v4349 => .R e (fun h => ⟨_,_,_,h,e,e⟩) (.k [1,7,8,9,10,12,13,14,16,18,19] [0,1,2,3,5])))))) (.X hk4305 e e (.n e (.J e (.k [1,7,8,9,10,12,13,14,16] [0,1,2,3,4])))))) fun v4244 => .j e (fun v4356 => [(1,VI x2),(7,.sl 0 148 0 v4244.length),(8,.sl 1 9 0 x3307.length),(9,VI v4356),(10,.sl 2 9 0 y2236.1.length),(12,VI x3304),(13,VI x3305),(16,VS y4121.1)]) (fun v4356 => [(0,.vec 148 (v4244.map encSpot)),(1,.vec 9 (x3307.map encS)),(2,.vec 9 (y2236.1.map encS))]) (fun _ => .a e e (.J e (.k [1,7,8,9,10,12,13,16] [0,1,2])) (.J e (.k [1,7,8,9,10,12,13,16] [0,1,2]))) fun v4356 => .B fun x4364 hx4364 => .st e (Ev.iaW e e e hx4364) e (.st e (Ev.ldE (f := encS) e e (at_some hx4364).2 e e e) e (.st e (Ev.bsW (ys := ([x4364] : List ByteArray)) (f := encS) e (.d1 .nil) e e e e e) e (.B fun _ hx4365 => .st e (Ev.apW (f := encS) (ontoW e e e) (addsW e e e (fun _ => e)) e bt9 e hx4365) e (.J e (.k [1,7,8,9,10,12,13] [0,103496,2]))))))))))))))) fun v4103 => .R e (fun h => ⟨_,_,_,_,_,h,e,e⟩) (.k [1,7,8,9,10,12,13] [0,1,2])) (.X hk3837 e e (.ir (.n e (.J e (.k [7,8,9] [0,1]))))))) fun v3301 => .Ek [0,1] e e e))
def spec_l08More_l2 (N : Nat) (x2461 : (List Spot)) (x3052 : Spot) : Nat → Int → (List Spot) → Option ((List Spot))
 | 0,_,_ => none
 | m + 1,x3101,x3107 =>
 (if (decide (x3101 < ((x2461.length : Nat) : Int))) = true then
 joinP (fun (v3136 : (List Spot)) =>
 spec_l08More_l2 N x2461 x3052 m (w64 (x3101 + 1)) v3136) fun j3136 =>
 (at? x2461 x3101).bind fun x3138 =>
 (if (Op.bytesLess x3138.Key.toList x3052.Key.toList) = true then
 (at? x2461 x3101).bind fun x3142 =>
 (cat? x3107 ([x3142] : List Spot)).bind fun x3143 =>
 j3136 x3143
 else
 j3136 x3107)
 else
 some x3107)
def spec_l08More_l3 (N : Nat) (x2461 : (List Spot)) (x3052 : Spot) : Nat → Int → (List Spot) → Option ((List Spot))
 | 0,_,_ => none
 | m + 1,x3199,x3205 =>
 (if (decide (x3199 < ((x2461.length : Nat) : Int))) = true then
 joinP (fun (v3234 : (List Spot)) =>
 spec_l08More_l3 N x2461 x3052 m (w64 (x3199 + 1)) v3234) fun j3234 =>
 (at? x2461 x3199).bind fun x3236 =>
 (if (!(Op.bytesLess x3236.Key.toList x3052.Key.toList || decide (x3236.Key = x3052.Key))) = true then
 (at? x2461 x3199).bind fun x3240 =>
 (cat? x3205 ([x3240] : List Spot)).bind fun x3241 =>
 j3234 x3241
 else
 j3234 x3205)
 else
 some x3205)
def spec_l08More_l1 (N : Nat) (x2 : (List Spot)) : Nat → Int → (List Spot) → Option ((List Spot))
 | 0,_,_ => none
 | m + 1,x2460,x2461 =>
 (if (decide (x2460 < (x2.length : Int))) = true then
 joinP (fun (v3048 : (List Spot)) =>
 spec_l08More_l1 N x2 m (w64 (x2460 + 1)) v3048) fun j3048 =>
 (at? x2 x2460).bind fun x3052 =>
 joinP (fun (v3098 : (List Spot)) =>
 joinP (fun (v3147 : (List Spot)) =>
 joinP (fun (v3196 : (List Spot)) =>
 j3048 v3196) fun j3196 =>
 (spec_l08More_l3 N x2461 x3052 N 0 v3147).bind (fun v3223 => j3196 v3223)) fun j3147 =>
 (if (x3052.Size != (-1 : Int)) = true then
 (cat? v3098 ([x3052] : List Spot)).bind fun x3150 =>
 j3147 x3150
 else
 j3147 v3098)) fun j3098 =>
 (spec_l08More_l2 N x2461 x3052 N 0 ([] : List Spot)).bind (fun v3125 => j3098 v3125)
 else
 some x2461)
def spec_l08More (N : Nat) (x1 : (List Spot)) (x2 : (List Spot)) : Option ((List Spot)) :=
 (cat? ([] : List Spot) x1).bind fun x1674 =>
 joinP (fun (v2458 : (List Spot)) =>
 some v2458) fun j2458 =>
 (spec_l08More_l1 N x2 N 0 x1674).bind (fun v2851 => j2458 v2851)
instance i87 (N : Nat) (x1 : (List Spot)) (x2 : (List Spot)) : Sem Tryz.prog 111 (spec_l08More N x1 x2) [RO 148 (x1.map encSpot),RO 148 (x2.map encSpot)] 0 [] (fun r => .sl 0 148 0 r.length) (fun r => [(0,.vec 148 (r.map encSpot))]) := .st e e Tryz.call111 fun B r => .st e (Ev.bsW (ys := ([] : List Spot)) (f := encSpot) e .nil e e e e e) e (.B fun _ hx1674 => .st e (Ev.apW (f := encSpot) (ontoW e e e) (addsF e) e bt148 e hx1674) e (.j e (fun v2458 => [(5,.sl 0 148 0 v2458.length)]) (fun v2458 => [(0,.vec 148 (v2458.map encSpot))]) (fun _ => .L2 e (fun x2460 x2461 => [(1,RO 148 (x2.map encSpot)),(5,.sl 0 148 0 x2461.length),(6,VI x2460)]) (fun x2460 x2461 => [(0,.vec 148 (x2461.map encSpot))]) (.k [1,5,6] [5128]) fun _ x2460 x2461 _ hk2851 => .q e (.st e (Ev.lnF e) e (.a e e (.j e (fun v3048 => [(1,RO 148 (x2.map encSpot)),(5,.sl 0 148 0 v3048.length),(6,VI x2460)]) (fun v3048 => [(0,.vec 148 (v3048.map encSpot))]) (fun _ => .B fun x3052 hx3052 => .st e (Ev.iaF e e hx3052) e (.st e (Ev.bsW (ys := ([] : List Spot)) (f := encSpot) e .nil e e e e e) e (.j e (fun v3098 => [(1,RO 148 (x2.map encSpot)),(5,.sl 0 148 0 x2461.length),(6,VI x2460),(7,.ptr 1 0),(8,.sl 2 148 0 v3098.length)]) (fun v3098 => [(0,.vec 148 (x2461.map encSpot)),(1,.box [VS x3052.Key,VI x3052.Seg,VI x3052.At,VI x3052.Size]),(2,.vec 148 (v3098.map encSpot))]) (fun _ => .L2 e (fun x3101 x3107 => [(1,RO 148 (x2.map encSpot)),(5,.sl 0 148 0 x2461.length),(6,VI x2460),(7,.ptr 1 0),(8,.sl 2 148 0 x3107.length),(9,VI x3101)]) (fun x3101 x3107 => [(0,.vec 148 (x2461.map encSpot)),(1,.box [VS x3052.Key,VI x3052.Seg,VI x3052.At,VI x3052.Size]),(2,.vec 148 (x3107.map encSpot))]) (.k [1,5,6,7,8,9] [0,21544,25576]) fun _ x3101 x3107 _ hk3125 => .q e (.a e e (.j e (fun v3136 => [(1,RO 148 (x2.map encSpot)),(5,.sl 0 148 0 x2461.length),(6,VI x2460),(7,.ptr 1 0),(8,.sl 2 148 0 v3136.length),(9,VI x3101)]) (fun v3136 => [(0,.vec 148 (x2461.map encSpot)),(1,.box [VS x3052.Key,VI x3052.Seg,VI x3052.At,VI x3052.Size]),(2,.vec 148 (v3136.map encSpot))]) (fun _ => .B fun _ hx3138 => .st e (Ev.iaW e e e hx3138) e (.st e (Ev.ldE (f := encSpot) e e (at_some hx3138).2 e e e) e (.dn e (.a e e (.B fun x3142 hx3142 => .st e (Ev.iaW e e e hx3142) e (.st e (Ev.ldE (f := encSpot) e e (at_some hx3142).2 e e e) e (.st e (Ev.bsW (ys := ([x3142] : List Spot)) (f := encSpot) e (.d4 .nil) e e e e e) e (.B fun _ hx3143 => .st e (Ev.apW (f := encSpot) (ontoW e e e) (addsW e e e (fun _ => e)) e bt148 e hx3143) e (.J e (.k [1,5,6,7,8,9] [0,1,46152])))))) (.J e (.k [1,5,6,7,8,9] [0,1,2])))))) fun v3136 => .R e (fun h => ⟨_,_,h,e,e⟩) (.k [1,5,6,7,8,9] [0,1,2])) (.X hk3125 e e (.n e (.J e (.k [1,5,6,7,8] [0,1,2])))))) fun v3098 => .j e (fun v3147 => [(1,RO 148 (x2.map encSpot)),(5,.sl 0 148 0 x2461.length),(6,VI x2460),(7,.ptr 1 0),(8,.sl 2 148 0 v3147.length)]) (fun v3147 => [(0,.vec 148 (x2461.map encSpot)),(1,.box [VS x3052.Key,VI x3052.Seg,VI x3052.At,VI x3052.Size]),(2,.vec 148 (v3147.map encSpot))]) (fun _ => .a e e (.st e (Ev.bsW (ys := ([x3052] : List Spot)) (f := encSpot) e (.d4 .nil) e e e e e) e (.B fun _ hx3150 => .st e (Ev.apW (f := encSpot) (ontoW e e e) (addsW e e e (fun _ => e)) e bt148 e hx3150) e (.J e (.k [1,5,6,7,8] [0,1,54296])))) (.J e (.k [1,5,6,7,8] [0,1,2]))) fun v3147 => .j e (fun v3196 => [(1,RO 148 (x2.map encSpot)),(6,VI x2460),(8,.sl 0 148 0 v3196.length)]) (fun v3196 => [(0,.vec 148 (v3196.map encSpot))]) (fun _ => .L2 e (fun x3199 x3205 => [(1,RO 148 (x2.map encSpot)),(5,.sl 0 148 0 x2461.length),(6,VI x2460),(7,.ptr 1 0),(8,.sl 2 148 0 x3205.length),(10,VI x3199)]) (fun x3199 x3205 => [(0,.vec 148 (x2461.map encSpot)),(1,.box [VS x3052.Key,VI x3052.Seg,VI x3052.At,VI x3052.Size]),(2,.vec 148 (x3205.map encSpot))]) (.k [1,5,6,7,8,10] [0,1,2]) fun _ x3199 x3205 _ hk3223 => .q e (.a e e (.j e (fun v3234 => [(1,RO 148 (x2.map encSpot)),(5,.sl 0 148 0 x2461.length),(6,VI x2460),(7,.ptr 1 0),(8,.sl 2 148 0 v3234.length),(10,VI x3199)]) (fun v3234 => [(0,.vec 148 (x2461.map encSpot)),(1,.box [VS x3052.Key,VI x3052.Seg,VI x3052.At,VI x3052.Size]),(2,.vec 148 (v3234.map encSpot))]) (fun _ => .B fun _ hx3236 => .st e (Ev.iaW e e e hx3236) e (.st e (Ev.ldE (f := encSpot) e e (at_some hx3236).2 e e e) e (.dn e (.a e e (.B fun x3240 hx3240 => .st e (Ev.iaW e e e hx3240) e (.st e (Ev.ldE (f := encSpot) e e (at_some hx3240).2 e e e) e (.st e (Ev.bsW (ys := ([x3240] : List Spot)) (f := encSpot) e (.d4 .nil) e e e e e) e (.B fun _ hx3241 => .st e (Ev.apW (f := encSpot) (ontoW e e e) (addsW e e e (fun _ => e)) e bt148 e hx3241) e (.J e (.k [1,5,6,7,8,10] [0,1,74824])))))) (.J e (.k [1,5,6,7,8,10] [0,1,2])))))) fun v3234 => .R e (fun h => ⟨_,_,h,e,e⟩) (.k [1,5,6,7,8,10] [0,1,2])) (.X hk3223 e e (.n e (.J e (.k [1,6,8] [2])))))) fun v3196 => .J e (.k [1,5,6] [0])))) fun v3048 => .R e (fun h => ⟨_,_,h,e,e⟩) (.k [1,5,6] [0])) (.X hk2851 e e (.n e (.J e (.k [5] [0]))))))) fun v2458 => .Ek [0] e e e))
def spec_DirOk_l1 (N : Nat) (x1 : (List Spot)) : Nat → Int → Option ((Bool) ⊕ (Unit))
 | 0,_ => none
 | m + 1,x572 =>
 (if (decide (x572 < (x1.length : Int))) = true then
 joinP (fun (v689 : Unit) =>
 spec_DirOk_l1 N x1 m (w64 (x572 + 1))) fun j689 =>
 (at? x1 x572).bind fun x693 =>
 (spec_l05Key N x693.Key).bind fun y709 =>
 (if (!y709) = true then
 some (Sum.inl false)
 else
 (if (decide (x572 > 0)) = true then
 (at? x1 (w64 (x572 - 1))).bind fun x712 =>
 (if (!Op.bytesLess x712.Key.toList x693.Key.toList) = true then
 some (Sum.inl false)
 else
 (spec_l01In N x693.Seg 0 999).bind fun y714 =>
 (if (!y714) = true then
 some (Sum.inl false)
 else
 (spec_l01In N x693.At 0 20000).bind fun y716 =>
 (if (!y716) = true then
 some (Sum.inl false)
 else
 (spec_l01In N x693.Size 0 40).bind fun y718 =>
 (if (!y718) = true then
 some (Sum.inl false)
 else
 j689 ()))))
 else
 (spec_l01In N x693.Seg 0 999).bind fun y720 =>
 (if (!y720) = true then
 some (Sum.inl false)
 else
 (spec_l01In N x693.At 0 20000).bind fun y722 =>
 (if (!y722) = true then
 some (Sum.inl false)
 else
 (spec_l01In N x693.Size 0 40).bind fun y724 =>
 (if (!y724) = true then
 some (Sum.inl false)
 else
 j689 ())))))
 else
 some (Sum.inr ()))
def spec_DirOk (N : Nat) (x1 : (List Spot)) : Option (Bool) :=
 (if (decide ((x1.length : Int) > 60)) = true then
 some false
 else
 joinP (fun (v570 : Unit) =>
 some true) fun j570 =>
 (spec_DirOk_l1 N x1 N 0).bind (Sum.elim (fun v648 => some v648) (fun (v649 : Unit) => j570 ())))
instance i88 (N : Nat) (x1 : (List Spot)) : Sem Tryz.prog 62 (spec_DirOk N x1) [RO 148 (x1.map encSpot)] 0 [] (fun r => VB r) (fun r => []) := .st e e Tryz.call62 fun B r => .q e (.st e (Ev.lnF e) e (.a e e (.Ek [] e e e) (.j e (fun _ => []) (fun _ => []) (fun _ => .L1 e (fun x572 => [(0,RO 148 (x1.map encSpot)),(3,VI x572)]) (fun x572 => []) (.k [0,3] []) fun _ x572 _ hk649 => .q e (.st e (Ev.lnF e) e (.a e e (.j e (fun _ => [(0,RO 148 (x1.map encSpot)),(3,VI x572)]) (fun _ => []) (fun _ => .B fun _ hx693 => .st e (Ev.iaF e e hx693) e (.q e (.c0 e i q fun _ _ => .a e e (.dn e (.Xr hk649 e e (.il (.e e (.Ek [] e e e))))) (.a e e (.B fun _ hx712 => .st e (Ev.iaF e e hx712) e (.a e e (.dn e (.Xr hk649 e e (.il (.e e (.Ek [] e e e))))) (.c0 e i q fun _ _ => .a e e (.dn e (.Xr hk649 e e (.il (.e e (.Ek [] e e e))))) (.c0 e i q fun _ _ => .a e e (.dn e (.Xr hk649 e e (.il (.e e (.Ek [] e e e))))) (.c0 e i q fun _ _ => .dn e (.a e e (.Xr hk649 e e (.il (.e e (.Ek [] e e e)))) (.J e (.k [0,3] [])))))))) (.c0 e i q fun _ _ => .a e e (.dn e (.Xr hk649 e e (.il (.e e (.Ek [] e e e))))) (.c0 e i q fun _ _ => .a e e (.dn e (.Xr hk649 e e (.il (.e e (.Ek [] e e e))))) (.c0 e i q fun _ _ => .dn e (.a e e (.Xr hk649 e e (.il (.e e (.Ek [] e e e)))) (.J e (.k [0,3] [])))))))))) fun _ => .R e (fun h => ⟨_,h,e,e⟩) (.k [0,3] [])) (.X hk649 e e (.ir (.n e (.J e (.k [] [])))))))) fun _ => .Ek [] e e e)))
def spec_l09Load_l1 (N : Nat) (x1 : Disk) (y1579 : Manifest × Bool) : Nat → Int → Option ((Shelf × Int × Int) ⊕ (Unit))
 | 0,_ => none
 | m + 1,x1641 =>
 (if (decide (x1641 < ((y1579.1.Segs.length : Nat) : Int))) = true then
 (at? y1579.1.Segs x1641).bind fun x1691 =>
 (spec_SegName N x1691).bind fun y1692 =>
 (spec_l03At N x1 y1692).bind fun y1693 =>
 (if (decide (y1693 < 0)) = true then
 some (Sum.inl ((Shelf.mk (Manifest.mk ([]) 0 0 0 ([])) ([]) 0),0,3))
 else
 spec_l09Load_l1 N x1 y1579 m (w64 (x1641 + 1)))
 else
 some (Sum.inr ()))
def spec_l09Load_l3 (N : Nat) (y2886 : (List Spot) × (List ByteArray) × Int) : Nat → Int → Int → Option (Int)
 | 0,_,_ => none
 | m + 1,x2951,x2955 =>
 (if (decide (x2955 < ((y2886.2.1.length : Nat) : Int))) = true then
 (at? y2886.2.1 x2955).bind fun x3012 =>
 (spec_Frame N x3012).bind fun y3013 =>
 spec_l09Load_l3 N y2886 m (w64 (x2951 + (y3013.1.size : Int))) (w64 (x2955 + 1))
 else
 some x2951)
def spec_l09Load_l2 (N : Nat) (x1 : Disk) (y1579 : Manifest × Bool) : Nat → Int → Int → Int → (List Spot) → Option ((Shelf × Int × Int) ⊕ (Int × Int × (List Spot)))
 | 0,_,_,_,_ => none
 | m + 1,x2361,x2362,x2374,x2380 =>
 (if (decide (x2362 < ((y1579.1.Segs.length : Nat) : Int))) = true then
 joinP (fun (v2866 : Int × Int × (List Spot)) =>
 spec_l09Load_l2 N x1 y1579 m v2866.1 (w64 (x2362 + 1)) v2866.2.1 v2866.2.2) fun j2866 =>
 (at? y1579.1.Segs x2362).bind fun x2876 =>
 (spec_SegName N x2876).bind fun y2877 =>
 (spec_l03Text N x1 y2877).bind fun y2878 =>
 (at? y1579.1.Segs x2362).bind fun x2885 =>
 (spec_ScanSeg N y2878 x2885).bind fun y2886 =>
 joinP (fun (v2950 : Int) =>
 joinP (fun (v3017 : Unit) =>
 (spec_l08More N x2380 y2886.1).bind fun y3024 =>
 (if (decide (y2886.2.2 > x2374)) = true then
 j2866 (v2950,y2886.2.2,y3024)
 else
 j2866 (v2950,x2374,y3024))) fun j3017 =>
 (if (decide (v2950 < (y2878.size : Int))) = true then
 (if (decide ((w64 (x2362 + 1)) < ((y1579.1.Segs.length : Nat) : Int))) = true then
 some (Sum.inl ((Shelf.mk (Manifest.mk ([]) 0 0 0 ([])) ([]) 0),0,4))
 else
 j3017 ())
 else
 j3017 ())) fun j2950 =>
 (spec_l09Load_l3 N y2886 N 0 0).bind (fun v2994 => j2950 v2994)
 else
 some (Sum.inr (x2361,x2374,x2380)))
def spec_l09Load (N : Nat) (x1 : Disk) : Option (Shelf × Int × Int) :=
 (spec_DiskOk N x1).bind fun y1570 =>
 (if (!y1570) = true then
 some ((Shelf.mk (Manifest.mk ([]) 0 0 0 ([])) ([]) 0),0,1)
 else
 (spec_FileAt N x1 (⟨#[109]⟩ : ByteArray)).bind fun y1575 =>
 (spec_ReadManifest N y1575.1).bind fun y1579 =>
 (if (!y1575.2) = true then
 some ((Shelf.mk (Manifest.mk ([]) 0 0 0 ([])) ([]) 0),0,2)
 else
 (if (!y1579.2) = true then
 some ((Shelf.mk (Manifest.mk ([]) 0 0 0 ([])) ([]) 0),0,2)
 else
 joinP (fun (v1640 : Unit) =>
 joinP (fun (v2360 : Int × Int × (List Spot)) =>
 (spec_DirOk N v2360.2.2).bind fun y3030 =>
 (if (!y3030) = true then
 some ((Shelf.mk (Manifest.mk ([]) 0 0 0 ([])) ([]) 0),0,4)
 else
 some ((Shelf.mk y1579.1 v2360.2.2 v2360.2.1),v2360.1,0))) fun j2360 =>
 (spec_l09Load_l2 N x1 y1579 N 0 0 y1579.1.Base ([] : (List Spot))).bind (Sum.elim (fun v2702 => some v2702) (fun (v2703 : Int × Int × (List Spot)) => j2360 (v2703.1,v2703.2.1,v2703.2.2)))) fun j1640 =>
 (spec_l09Load_l1 N x1 y1579 N 0).bind (Sum.elim (fun v1676 => some v1676) (fun (v1677 : Unit) => j1640 ())))))
instance i89 (N : Nat) (x1 : Disk) : Sem Tryz.prog 55 (spec_l09Load N x1) [.agg [RO 141 (x1.Files.map encFile)]] 0 [] (fun r => .tup [.agg [.sl 0 3 0 r.1.Man.Segs.length,VI r.1.Man.Next,VI r.1.Man.Base,VI r.1.Man.BaseTerm,.sl 1 3 0 r.1.Man.Conf.length,.sl 2 148 0 r.1.Dir.length,VI r.1.Stamp],VI r.2.1,VI r.2.2]) (fun r => [(0,.vec 3 (r.1.Man.Segs.map encI)),(1,.vec 3 (r.1.Man.Conf.map encI)),(2,.vec 148 (r.1.Dir.map encSpot))]) := .st e e Tryz.call55 fun B r => .q e (.c0 e i q fun _ _ => .a e e (.E e e (.n [0,1,2] [] [0] [] [10000000,10000001,10000002])) (.c0 e i q fun _ _ => .f [] [] 2 e i q fun y1579 _ => .q e (.q e (.a e e (.E e e (.n [0,1,2] [] [0] [] [10000000,10000001,10000002])) (.a e e (.E e e (.n [0,1,2] [] [0] [] [10000000,10000001,10000002])) (.j e (fun _ => [(1,.ptr 0 0),(2,.ptr 1 0),(7,.ptr 2 0),(9,.ptr 3 0)]) (fun _ => [(0,.box [RO 141 (x1.Files.map encFile)]),(1,.box [.sl 4 3 0 (([] : (List Int)).length),VI 0,VI 0,VI 0,.sl 5 3 0 (([] : (List Int)).length),.sl 6 148 0 (([] : (List Spot)).length),VI 0]),(2,.box [.sl 7 3 0 y1579.1.Segs.length,VI y1579.1.Next,VI y1579.1.Base,VI y1579.1.BaseTerm,.sl 8 3 0 y1579.1.Conf.length]),(3,.box [.sl 7 3 0 y1579.1.Segs.length,VI y1579.1.Next,VI y1579.1.Base,VI y1579.1.BaseTerm,.sl 8 3 0 y1579.1.Conf.length,.sl 9 148 0 (([] : (List Spot)).length),VI y1579.1.Base]),(4,.vec 3 (([] : (List Int)).map encI)),(5,.vec 3 (([] : (List Int)).map encI)),(6,.vec 148 (([] : (List Spot)).map encSpot)),(7,.vec 3 (y1579.1.Segs.map encI)),(8,.vec 3 (y1579.1.Conf.map encI)),(9,.vec 148 (([] : (List Spot)).map encSpot))]) (fun _ => .L1 e (fun x1641 => [(1,.ptr 0 0),(2,.ptr 1 0),(7,.ptr 2 0),(9,.ptr 3 0),(10,VI x1641)]) (fun x1641 => [(0,.box [RO 141 (x1.Files.map encFile)]),(1,.box [.sl 4 3 0 (([] : (List Int)).length),VI 0,VI 0,VI 0,.sl 5 3 0 (([] : (List Int)).length),.sl 6 148 0 (([] : (List Spot)).length),VI 0]),(2,.box [.sl 7 3 0 y1579.1.Segs.length,VI y1579.1.Next,VI y1579.1.Base,VI y1579.1.BaseTerm,.sl 8 3 0 y1579.1.Conf.length]),(3,.box [.sl 7 3 0 y1579.1.Segs.length,VI y1579.1.Next,VI y1579.1.Base,VI y1579.1.BaseTerm,.sl 8 3 0 y1579.1.Conf.length,.sl 9 148 0 (([] : (List Spot)).length),VI y1579.1.Base]),(4,.vec 3 (([] : (List Int)).map encI)),(5,.vec 3 (([] : (List Int)).map encI)),(6,.vec 148 (([] : (List Spot)).map encSpot)),(7,.vec 3 (y1579.1.Segs.map encI)),(8,.vec 3 (y1579.1.Conf.map encI)),(9,.vec 148 (([] : (List Spot)).map encSpot))]) (.n [1,2,7,9,10] [1000,1016,17464,29736,17400,17401] [] [1016,29736] [1000,1016,17464,29736,20000000,20000001,20000002,17400,17401,20000064]) fun _ x1641 _ hk1677 => .q e (.a e e (.q e (.B fun _ hx1691 => .st e (Ev.iaW e e e hx1691) e (.st e (Ev.ldE (f := encI) e e (at_some hx1691).2 e e e) e (.c0 e i q fun _ _ => .c0 e i q fun _ _ => .dn e (.a e e (.Xr hk1677 e e (.il (.e e (.E e e (.n [0,1,2] [] [0] [] [10000000,10000001,10000002]))))) (.R e (fun h => ⟨_,h,e,e⟩) (.k [1,2,7,9,10] [0,1,2,3,4,5,6,7,8,9]))))))) (.X hk1677 e e (.ir (.n e (.J e (.k [1,2,7,9] [0,1,2,3,4,5,6,7,8,9]))))))) fun _ => .j e (fun v2360 => [(2,.ptr 0 0),(9,.ptr 1 0),(11,VI v2360.1)]) (fun v2360 => [(0,.box [.sl 2 3 0 (([] : (List Int)).length),VI 0,VI 0,VI 0,.sl 3 3 0 (([] : (List Int)).length),.sl 4 148 0 (([] : (List Spot)).length),VI 0]),(1,.box [.sl 5 3 0 y1579.1.Segs.length,VI y1579.1.Next,VI y1579.1.Base,VI y1579.1.BaseTerm,.sl 6 3 0 y1579.1.Conf.length,.sl 7 148 0 v2360.2.2.length,VI v2360.2.1]),(2,.vec 3 (([] : (List Int)).map encI)),(3,.vec 3 (([] : (List Int)).map encI)),(4,.vec 148 (([] : (List Spot)).map encSpot)),(5,.vec 3 (y1579.1.Segs.map encI)),(6,.vec 3 (y1579.1.Conf.map encI)),(7,.vec 148 (v2360.2.2.map encSpot))]) (fun _ => .L4 e (fun x2361 x2362 x2374 x2380 => [(1,.ptr 0 0),(2,.ptr 1 0),(7,.ptr 2 0),(9,.ptr 3 0),(11,VI x2361),(12,VI x2362)]) (fun x2361 x2362 x2374 x2380 => [(0,.box [RO 141 (x1.Files.map encFile)]),(1,.box [.sl 4 3 0 (([] : (List Int)).length),VI 0,VI 0,VI 0,.sl 5 3 0 (([] : (List Int)).length),.sl 6 148 0 (([] : (List Spot)).length),VI 0]),(2,.box [.sl 7 3 0 y1579.1.Segs.length,VI y1579.1.Next,VI y1579.1.Base,VI y1579.1.BaseTerm,.sl 8 3 0 y1579.1.Conf.length]),(3,.box [.sl 7 3 0 y1579.1.Segs.length,VI y1579.1.Next,VI y1579.1.Base,VI y1579.1.BaseTerm,.sl 8 3 0 y1579.1.Conf.length,.sl 9 148 0 x2380.length,VI x2374]),(4,.vec 3 (([] : (List Int)).map encI)),(5,.vec 3 (([] : (List Int)).map encI)),(6,.vec 148 (([] : (List Spot)).map encSpot)),(7,.vec 3 (y1579.1.Segs.map encI)),(8,.vec 3 (y1579.1.Conf.map encI)),(9,.vec 148 (x2380.map encSpot))]) (.k [1,2,7,9,11,12] [0,1,2,3,4,5,6,7,8,9]) fun _ x2361 x2362 x2374 x2380 _ hk2703 => .q e (.a e e (.j e (fun v2866 => [(1,.ptr 0 0),(2,.ptr 1 0),(7,.ptr 2 0),(9,.ptr 3 0),(11,VI v2866.1),(12,VI x2362)]) (fun v2866 => [(0,.box [RO 141 (x1.Files.map encFile)]),(1,.box [.sl 4 3 0 (([] : (List Int)).length),VI 0,VI 0,VI 0,.sl 5 3 0 (([] : (List Int)).length),.sl 6 148 0 (([] : (List Spot)).length),VI 0]),(2,.box [.sl 7 3 0 y1579.1.Segs.length,VI y1579.1.Next,VI y1579.1.Base,VI y1579.1.BaseTerm,.sl 8 3 0 y1579.1.Conf.length]),(3,.box [.sl 7 3 0 y1579.1.Segs.length,VI y1579.1.Next,VI y1579.1.Base,VI y1579.1.BaseTerm,.sl 8 3 0 y1579.1.Conf.length,.sl 9 148 0 v2866.2.2.length,VI v2866.2.1]),(4,.vec 3 (([] : (List Int)).map encI)),(5,.vec 3 (([] : (List Int)).map encI)),(6,.vec 148 (([] : (List Spot)).map encSpot)),(7,.vec 3 (y1579.1.Segs.map encI)),(8,.vec 3 (y1579.1.Conf.map encI)),(9,.vec 148 (v2866.2.2.map encSpot))]) (fun _ => .B fun _ hx2876 => .st e (Ev.iaW e e e hx2876) e (.st e (Ev.ldE (f := encI) e e (at_some hx2876).2 e e e) e (.c0 e i q fun _ _ => .c0 e i q fun y2878 _ => .dn e (.B fun _ hx2885 => .st e (Ev.iaW e e e hx2885) e (.st e (Ev.ldE (f := encI) e e (at_some hx2885).2 e e e) e (.f [] [] 2 e i q fun y2886 _ => .j e (fun v2950 => [(1,.ptr 0 0),(2,.ptr 1 0),(7,.ptr 2 0),(9,.ptr 3 0),(11,VI v2950),(12,VI x2362),(13,VS y2878),(14,.sl 4 148 0 y2886.1.length),(16,VI y2886.2.2)]) (fun v2950 => [(0,.box [RO 141 (x1.Files.map encFile)]),(1,.box [.sl 5 3 0 (([] : (List Int)).length),VI 0,VI 0,VI 0,.sl 6 3 0 (([] : (List Int)).length),.sl 7 148 0 (([] : (List Spot)).length),VI 0]),(2,.box [.sl 8 3 0 y1579.1.Segs.length,VI y1579.1.Next,VI y1579.1.Base,VI y1579.1.BaseTerm,.sl 9 3 0 y1579.1.Conf.length]),(3,.box [.sl 8 3 0 y1579.1.Segs.length,VI y1579.1.Next,VI y1579.1.Base,VI y1579.1.BaseTerm,.sl 9 3 0 y1579.1.Conf.length,.sl 10 148 0 x2380.length,VI x2374]),(4,.vec 148 (y2886.1.map encSpot)),(5,.vec 3 (([] : (List Int)).map encI)),(6,.vec 3 (([] : (List Int)).map encI)),(7,.vec 148 (([] : (List Spot)).map encSpot)),(8,.vec 3 (y1579.1.Segs.map encI)),(9,.vec 3 (y1579.1.Conf.map encI)),(10,.vec 148 (x2380.map encSpot))]) (fun _ => .L2 e (fun x2951 x2955 => [(1,.ptr 0 0),(2,.ptr 1 0),(7,.ptr 2 0),(9,.ptr 3 0),(11,VI x2951),(12,VI x2362),(13,VS y2878),(14,.sl 4 148 0 y2886.1.length),(15,.sl 5 9 0 y2886.2.1.length),(16,VI y2886.2.2),(17,VI x2955)]) (fun x2951 x2955 => [(0,.box [RO 141 (x1.Files.map encFile)]),(1,.box [.sl 6 3 0 (([] : (List Int)).length),VI 0,VI 0,VI 0,.sl 7 3 0 (([] : (List Int)).length),.sl 8 148 0 (([] : (List Spot)).length),VI 0]),(2,.box [.sl 9 3 0 y1579.1.Segs.length,VI y1579.1.Next,VI y1579.1.Base,VI y1579.1.BaseTerm,.sl 10 3 0 y1579.1.Conf.length]),(3,.box [.sl 9 3 0 y1579.1.Segs.length,VI y1579.1.Next,VI y1579.1.Base,VI y1579.1.BaseTerm,.sl 10 3 0 y1579.1.Conf.length,.sl 11 148 0 x2380.length,VI x2374]),(4,.vec 148 (y2886.1.map encSpot)),(5,.vec 9 (y2886.2.1.map encS)),(6,.vec 3 (([] : (List Int)).map encI)),(7,.vec 3 (([] : (List Int)).map encI)),(8,.vec 148 (([] : (List Spot)).map encSpot)),(9,.vec 3 (y1579.1.Segs.map encI)),(10,.vec 3 (y1579.1.Conf.map encI)),(11,.vec 148 (x2380.map encSpot))]) (.k [1,2,7,9,11,12,13,14,15,16,17] [0,1,2,3,74824,74825,4,5,6,7,8,9]) fun _ x2951 x2955 _ hk2994 => .q e (.a e e (.B fun _ hx3012 => .st e (Ev.iaW e e e hx3012) e (.st e (Ev.ldE (f := encS) e e (at_some hx3012).2 e e e) e (.c0 e i q fun _ _ => .R e (fun h => ⟨_,_,h,e,e⟩) (.k [1,2,7,9,11,12,13,14,15,16,17] [0,1,2,3,4,5,6,7,8,9,10,11])))) (.X hk2994 e e (.n e (.J e (.k [1,2,7,9,11,12,13,14,16] [0,1,2,3,4,6,7,8,9,10,11])))))) fun v2950 => .j e (fun _ => [(1,.ptr 0 0),(2,.ptr 1 0),(7,.ptr 2 0),(9,.ptr 3 0),(11,VI v2950),(12,VI x2362),(14,.sl 4 148 0 y2886.1.length),(16,VI y2886.2.2)]) (fun _ => [(0,.box [RO 141 (x1.Files.map encFile)]),(1,.box [.sl 5 3 0 (([] : (List Int)).length),VI 0,VI 0,VI 0,.sl 6 3 0 (([] : (List Int)).length),.sl 7 148 0 (([] : (List Spot)).length),VI 0]),(2,.box [.sl 8 3 0 y1579.1.Segs.length,VI y1579.1.Next,VI y1579.1.Base,VI y1579.1.BaseTerm,.sl 9 3 0 y1579.1.Conf.length]),(3,.box [.sl 8 3 0 y1579.1.Segs.length,VI y1579.1.Next,VI y1579.1.Base,VI y1579.1.BaseTerm,.sl 9 3 0 y1579.1.Conf.length,.sl 10 148 0 x2380.length,VI x2374]),(4,.vec 148 (y2886.1.map encSpot)),(5,.vec 3 (([] : (List Int)).map encI)),(6,.vec 3 (([] : (List Int)).map encI)),(7,.vec 148 (([] : (List Spot)).map encSpot)),(8,.vec 3 (y1579.1.Segs.map encI)),(9,.vec 3 (y1579.1.Conf.map encI)),(10,.vec 148 (x2380.map encSpot))]) (fun _ => .q e (.a e e (.a e e (.Xr hk2703 e e (.il (.e e (.E e e (.n [0,1,2] [] [0] [] [10000000,10000001,10000002]))))) (.J e (.k [1,2,7,9,11,12,14,16] [0,1,2,3,4,5,6,7,8,9,10]))) (.J e (.k [1,2,7,9,11,12,14,16] [0,1,2,3,4,5,6,7,8,9,10])))) fun _ => .f (hp := (.cons (.borrow e (by decide) (lendW (fun _ => e) _ e)) (.cons (.borrow e (by decide) (lendW (fun _ => e) _ e)) .nil))) (hcase := fun _ => (.inr ⟨rfl,ownL_root ⟨own_rows (fun _ => e) _,trivial⟩⟩)) [] [10,4] 1 e i q fun _ _ => .a e e (.J e (.k [1,2,7,9,11,12] [0,1,2,3,5,6,7,8,9,111640])) (.J e (.k [1,2,7,9,11,12] [0,1,2,3,5,6,7,8,9,111640])))))))) fun v2866 => .R e (fun h => ⟨_,_,_,_,h,e,e⟩) (.k [1,2,7,9,11,12] [0,1,2,3,4,5,6,7,8,9])) (.X hk2703 e e (.ir (.n e (.J e (.k [2,9,11] [1,3,4,5,6,7,8,9]))))))) fun v2360 => .q e (.f (hp := (.cons (.borrow e (by decide) (lendW (fun _ => e) _ e)) .nil)) (hcase := fun _ => (.inr ⟨rfl,ownL_root trivial⟩)) [] [7] 0 e i q fun _ _ => .a e e (.E e e (.n [0,1,2] [] [0] [] [10000000,10000001,10000002])) (.Ek [5,6,7] e e e))))))))
def spec_ReadDecimal_l1 (N : Nat) (x1 : ByteArray) : Nat → Int → Int → Option ((Int × Bool) ⊕ (Int))
 | 0,_,_ => none
 | m + 1,x339,x340 =>
 (if (decide (x340 < (x1.size : Int))) = true then
 (sat? x1 x340).bind fun x406 =>
 (if (decide (x406 < 48)) = true then
 some (Sum.inl (0,false))
 else
 (sat? x1 x340).bind fun x408 =>
 (if (decide (x408 > 57)) = true then
 some (Sum.inl (0,false))
 else
 (sat? x1 x340).bind fun x411 =>
 spec_ReadDecimal_l1 N x1 m (w64 ((w64 ((w64 (10 * x339)) + (w64 (x411)))) - 48)) (w64 (x340 + 1))))
 else
 some (Sum.inr x339))
def spec_ReadDecimal (N : Nat) (x1 : ByteArray) : Option (Int × Bool) :=
 (if (decide ((x1.size : Int) > 10)) = true then
 some (0,false)
 else
 joinP (fun (v337 : Int) =>
 (if (decide (v337 > 1000000000)) = true then
 some (0,false)
 else
 (spec_Decimal N v337).bind fun y420 =>
 (if (!decide (y420 = x1)) = true then
 some (0,false)
 else
 some (v337,true)))) fun j337 =>
 (spec_ReadDecimal_l1 N x1 N 0 0).bind (Sum.elim (fun v375 => some v375) (fun (v376 : Int) => j337 v376)))
instance i90 (N : Nat) (x1 : ByteArray) : Sem Tryz.prog 112 (spec_ReadDecimal N x1) [VS x1] 0 [] (fun r => .tup [VI r.1,VB r.2]) (fun r => []) := .st e e Tryz.call112 fun B r => .q e (.a e e (.Ek [] e e e) (.j e (fun v337 => [(0,VS x1),(4,VI v337)]) (fun v337 => []) (fun _ => .L2 e (fun x339 x340 => [(0,VS x1),(4,VI x339),(5,VI x340)]) (fun x339 x340 => []) (.k [0,4,5] []) fun _ x339 x340 _ hk376 => .q e (.a e e (.q e (.q e (.q e (.B fun _ hx406 => .st e (Ev.ixS e e hx406) e (.a e e (.Xr hk376 e e (.il (.e e (.Ek [] e e e)))) (.B fun _ hx408 => .st e (Ev.ixS e e hx408) e (.a e e (.Xr hk376 e e (.il (.e e (.Ek [] e e e)))) (.B fun _ hx411 => .st e (Ev.ixS e e hx411) e (.R e (fun h => ⟨_,_,h,e,e⟩) (.k [0,4,5] [])))))))))) (.X hk376 e e (.ir (.n e (.J e (.k [0,4] []))))))) fun v337 => .q e (.q e (.a e e (.Ek [] e e e) (.c0 e i q fun _ _ => .a e e (.Ek [] e e e) (.Ek [] e e e))))))
def spec_l09Seg (N : Nat) (x1 : ByteArray) : Option (Int) :=
 (if (decide ((x1.size : Int) < 2)) = true then
 some (-1 : Int)
 else
 (sdrop? x1 1).bind fun x128 =>
 (spec_ReadDecimal N x128).bind fun y129 =>
 (if (!y129.2) = true then
 some (-1 : Int)
 else
 (spec_SegName N y129.1).bind fun y138 =>
 (if (!decide (y138 = x1)) = true then
 some (-1 : Int)
 else
 some y129.1)))
instance i91 (N : Nat) (x1 : ByteArray) : Sem Tryz.prog 57 (spec_l09Seg N x1) [VS x1] 0 [] (fun r => VI r) (fun r => []) := .st e e Tryz.call57 fun B r => .q e (.a e e (.Ek [] e e e) (.B fun _ hx128 => .st e (Ev.ssL e e hx128) e (.c0 e i q fun _ _ => .q e (.q e (.a e e (.Ek [] e e e) (.c0 e i q fun _ _ => .a e e (.Ek [] e e e) (.Ek [] e e e)))))))
def spec_l09In_l1 (N : Nat) (x1 : (List Int)) (x2 : Int) : Nat → Int → Option ((Bool) ⊕ (Unit))
 | 0,_ => none
 | m + 1,x170 =>
 (if (decide (x170 < (x1.length : Int))) = true then
 (at? x1 x170).bind fun x188 =>
 (if (x188 == x2) = true then
 some (Sum.inl true)
 else
 spec_l09In_l1 N x1 x2 m (w64 (x170 + 1)))
 else
 some (Sum.inr ()))
def spec_l09In (N : Nat) (x1 : (List Int)) (x2 : Int) : Option (Bool) :=
 joinP (fun (v167 : Unit) =>
 some false) fun j167 =>
 (spec_l09In_l1 N x1 x2 N 0).bind (Sum.elim (fun v179 => some v179) (fun (v180 : Unit) => j167 ()))
instance i92 (N : Nat) (x1 : (List Int)) (x2 : Int) : Sem Tryz.prog 58 (spec_l09In N x1 x2) [RO 3 (x1.map encI),VI x2] 0 [] (fun r => VB r) (fun r => []) := .st e e Tryz.call58 fun B r => .j e (fun _ => []) (fun _ => []) (fun _ => .L1 e (fun x170 => [(0,RO 3 (x1.map encI)),(1,VI x2),(5,VI x170)]) (fun x170 => []) (.k [0,1,5] []) fun _ x170 _ hk180 => .q e (.st e (Ev.lnF e) e (.a e e (.q e (.B fun _ hx188 => .st e (Ev.iaF e e hx188) e (.a e e (.Xr hk180 e e (.il (.e e (.Ek [] e e e)))) (.R e (fun h => ⟨_,h,e,e⟩) (.k [0,1,5] []))))) (.X hk180 e e (.ir (.n e (.J e (.k [] [])))))))) fun _ => .Ek [] e e e
def spec_OpenShelf_l1 (N : Nat) (x1 : Disk) (y332 : Shelf × Int × Int) : Nat → Int → (List Raw) → Option ((List Raw))
 | 0,_,_ => none
 | m + 1,x442,x452 =>
 (if (decide (x442 < (x1.Files.length : Int))) = true then
 joinP (fun (v517 : (List Raw)) =>
 spec_OpenShelf_l1 N x1 y332 m (w64 (x442 + 1)) v517) fun j517 =>
 (at? x1.Files x442).bind fun x524 =>
 (spec_l09Seg N x524.Name).bind fun y525 =>
 (if (decide (y525 ≥ 0)) = true then
 (spec_l09In N y332.1.Man.Segs y525).bind fun y529 =>
 (if (!y529) = true then
 (at? x1.Files x442).bind fun x533 =>
 (cat? x452 ([(Raw.mk 4 x533.Name (⟨#[]⟩ : ByteArray) (⟨#[]⟩ : ByteArray))] : List Raw)).bind fun x534 =>
 j517 x534
 else
 j517 x452)
 else
 j517 x452)
 else
 some x452)
def spec_OpenShelf (N : Nat) (x1 : Disk) : Option (Shelf × (List Raw) × Int) :=
 (spec_l09Load N x1).bind fun y332 =>
 (if (y332.2.2 != 0) = true then
 some ((Shelf.mk (Manifest.mk ([]) 0 0 0 ([])) ([]) 0),([] : List Raw),y332.2.2)
 else
 joinP (fun (v340 : (List Raw)) =>
 joinP (fun (v440 : (List Raw)) =>
 (at? y332.1.Man.Segs (w64 (((y332.1.Man.Segs.length : Nat) : Int) - 1))).bind fun x541 =>
 (spec_SegName N x541).bind fun y542 =>
 (spec_l03Text N x1 y542).bind fun y546 =>
 joinP (fun (v552 : (List Raw)) =>
 some (y332.1,v552,0)) fun j552 =>
 (if (decide (y332.2.1 < (y546.size : Int))) = true then
 (stake? y546 y332.2.1).bind fun x556 =>
 (cat? v440 ([(Raw.mk 1 y542 (⟨#[]⟩ : ByteArray) x556)] : List Raw)).bind fun x557 =>
 j552 x557
 else
 j552 v440)) fun j440 =>
 (spec_OpenShelf_l1 N x1 y332 N 0 v340).bind (fun v496 => j440 v496)) fun j340 =>
 (spec_l03At N x1 (⟨#[109,43]⟩ : ByteArray)).bind fun y342 =>
 (if (decide (y342 ≥ 0)) = true then
 (cat? ([] : List Raw) ([(Raw.mk 4 (⟨#[109,43]⟩ : ByteArray) (⟨#[]⟩ : ByteArray) (⟨#[]⟩ : ByteArray))] : List Raw)).bind fun x345 =>
 j340 x345
 else
 j340 ([] : List Raw)))
instance i93 (N : Nat) (x1 : Disk) : Sem Tryz.prog 20 (spec_OpenShelf N x1) [.agg [RO 141 (x1.Files.map encFile)]] 0 [] (fun r => .tup [.agg [.sl 0 3 0 r.1.Man.Segs.length,VI r.1.Man.Next,VI r.1.Man.Base,VI r.1.Man.BaseTerm,.sl 1 3 0 r.1.Man.Conf.length,.sl 2 148 0 r.1.Dir.length,VI r.1.Stamp],.sl 3 138 0 r.2.1.length,VI r.2.2]) (fun r => [(0,.vec 3 (r.1.Man.Segs.map encI)),(1,.vec 3 (r.1.Man.Conf.map encI)),(2,.vec 148 (r.1.Dir.map encSpot)),(3,.vec 138 (r.2.1.map encRaw))]) := .st e e Tryz.call20 fun B r => .f [] [] 3 e i q fun y332 _ => .st e (Ev.bsW (ys := ([] : List Raw)) (f := encRaw) e .nil e e e e e) e (.q e (.a e e (.E e e (.n [0,1,2] [9192] [0] [] [10000000,10000001,10000002,9192])) (.j e (fun v340 => [(1,.ptr 0 0),(2,.ptr 1 0),(5,.ptr 2 0),(6,VI y332.2.1),(8,.sl 3 138 0 v340.length)]) (fun v340 => [(0,.box [RO 141 (x1.Files.map encFile)]),(1,.box [.sl 4 3 0 (([] : List Int).length),VI 0,VI 0,VI 0,.sl 5 3 0 (([] : List Int).length),.sl 6 148 0 (([] : List Spot).length),VI 0]),(2,.box [.sl 7 3 0 y332.1.Man.Segs.length,VI y332.1.Man.Next,VI y332.1.Man.Base,VI y332.1.Man.BaseTerm,.sl 8 3 0 y332.1.Man.Conf.length,.sl 9 148 0 y332.1.Dir.length,VI y332.1.Stamp]),(3,.vec 138 (v340.map encRaw)),(4,.vec 3 (([] : List Int).map encI)),(5,.vec 3 (([] : List Int).map encI)),(6,.vec 148 (([] : List Spot).map encSpot)),(7,.vec 3 (y332.1.Man.Segs.map encI)),(8,.vec 3 (y332.1.Man.Conf.map encI)),(9,.vec 148 (y332.1.Dir.map encSpot))]) (fun _ => .c0 e i q fun _ _ => .a e e (.st e (Ev.bsW (ys := ([(Raw.mk 4 (⟨#[109,43]⟩ : ByteArray) (⟨#[]⟩ : ByteArray) (⟨#[]⟩ : ByteArray))] : List Raw)) (f := encRaw) e (.d4 .nil) e e e e e) e (.B fun _ hx345 => .st e (Ev.apW (f := encRaw) (ontoW e e e) (addsW e e e (fun _ => e)) e bt138 e hx345) e (.J e (.n [1,2,5,6,8] [1000,1016,5192,25624,5112,5113,5114] [] [1016] [1000,1016,5192,25624,20000000,20000001,20000002,5112,5113,5114])))) (.J e (.n [1,2,5,6,8] [1000,1016,5192,9192,5112,5113,5114] [] [1016] [1000,1016,5192,9192,20000000,20000001,20000002,5112,5113,5114]))) fun v340 => .j e (fun v440 => [(1,.ptr 0 0),(2,.ptr 1 0),(5,.ptr 2 0),(6,VI y332.2.1),(8,.sl 3 138 0 v440.length)]) (fun v440 => [(0,.box [RO 141 (x1.Files.map encFile)]),(1,.box [.sl 4 3 0 (([] : (List Int)).length),VI 0,VI 0,VI 0,.sl 5 3 0 (([] : (List Int)).length),.sl 6 148 0 (([] : (List Spot)).length),VI 0]),(2,.box [.sl 7 3 0 y332.1.Man.Segs.length,VI y332.1.Man.Next,VI y332.1.Man.Base,VI y332.1.Man.BaseTerm,.sl 8 3 0 y332.1.Man.Conf.length,.sl 9 148 0 y332.1.Dir.length,VI y332.1.Stamp]),(3,.vec 138 (v440.map encRaw)),(4,.vec 3 (([] : (List Int)).map encI)),(5,.vec 3 (([] : (List Int)).map encI)),(6,.vec 148 (([] : (List Spot)).map encSpot)),(7,.vec 3 (y332.1.Man.Segs.map encI)),(8,.vec 3 (y332.1.Man.Conf.map encI)),(9,.vec 148 (y332.1.Dir.map encSpot))]) (fun _ => .L2 e (fun x442 x452 => [(1,.ptr 0 0),(2,.ptr 1 0),(5,.ptr 2 0),(6,VI y332.2.1),(8,.sl 3 138 0 x452.length),(9,VI x442)]) (fun x442 x452 => [(0,.box [RO 141 (x1.Files.map encFile)]),(1,.box [.sl 4 3 0 (([] : (List Int)).length),VI 0,VI 0,VI 0,.sl 5 3 0 (([] : (List Int)).length),.sl 6 148 0 (([] : (List Spot)).length),VI 0]),(2,.box [.sl 7 3 0 y332.1.Man.Segs.length,VI y332.1.Man.Next,VI y332.1.Man.Base,VI y332.1.Man.BaseTerm,.sl 8 3 0 y332.1.Man.Conf.length,.sl 9 148 0 y332.1.Dir.length,VI y332.1.Stamp]),(3,.vec 138 (x452.map encRaw)),(4,.vec 3 (([] : (List Int)).map encI)),(5,.vec 3 (([] : (List Int)).map encI)),(6,.vec 148 (([] : (List Spot)).map encSpot)),(7,.vec 3 (y332.1.Man.Segs.map encI)),(8,.vec 3 (y332.1.Man.Conf.map encI)),(9,.vec 148 (y332.1.Dir.map encSpot))]) (.k [1,2,5,6,8,9] [0,1,2,3,4,5,6,7,8,9]) fun _ x442 x452 _ hk496 => .q e (.st e (Ev.lnF e) e (.a e e (.j e (fun v517 => [(1,.ptr 0 0),(2,.ptr 1 0),(5,.ptr 2 0),(6,VI y332.2.1),(8,.sl 3 138 0 v517.length),(9,VI x442)]) (fun v517 => [(0,.box [RO 141 (x1.Files.map encFile)]),(1,.box [.sl 4 3 0 (([] : (List Int)).length),VI 0,VI 0,VI 0,.sl 5 3 0 (([] : (List Int)).length),.sl 6 148 0 (([] : (List Spot)).length),VI 0]),(2,.box [.sl 7 3 0 y332.1.Man.Segs.length,VI y332.1.Man.Next,VI y332.1.Man.Base,VI y332.1.Man.BaseTerm,.sl 8 3 0 y332.1.Man.Conf.length,.sl 9 148 0 y332.1.Dir.length,VI y332.1.Stamp]),(3,.vec 138 (v517.map encRaw)),(4,.vec 3 (([] : (List Int)).map encI)),(5,.vec 3 (([] : (List Int)).map encI)),(6,.vec 148 (([] : (List Spot)).map encSpot)),(7,.vec 3 (y332.1.Man.Segs.map encI)),(8,.vec 3 (y332.1.Man.Conf.map encI)),(9,.vec 148 (y332.1.Dir.map encSpot))]) (fun _ => .B fun _ hx524 => .st e (Ev.iaF e e hx524) e (.c0 e i q fun _ _ => .q e (.a e e (.f (hp := (.cons (.borrow e (by decide) (lendW (fun _ => e) _ e)) (.d1 .nil))) (hcase := fun _ => (.inr ⟨rfl,ownL_root trivial⟩)) [] [7] 0 e i q fun _ _ => .a e e (.B fun x533 hx533 => .st e (Ev.iaF e e hx533) e (.st e (Ev.bsW (ys := ([(Raw.mk 4 x533.Name (⟨#[]⟩ : ByteArray) (⟨#[]⟩ : ByteArray))] : List Raw)) (f := encRaw) e (.d4 .nil) e e e e e) e (.B fun _ hx534 => .st e (Ev.apW (f := encRaw) (ontoW e e e) (addsW e e e (fun _ => e)) e bt138 e hx534) e (.J e (.k [1,2,5,6,8,9] [0,1,2,50296,4,5,6,7,8,9]))))) (.J e (.k [1,2,5,6,8,9] [0,1,2,3,4,5,6,7,8,9]))) (.J e (.k [1,2,5,6,8,9] [0,1,2,3,4,5,6,7,8,9]))))) fun v517 => .R e (fun h => ⟨_,_,h,e,e⟩) (.k [1,2,5,6,8,9] [0,1,2,3,4,5,6,7,8,9])) (.X hk496 e e (.n e (.J e (.k [1,2,5,6,8] [0,1,2,3,4,5,6,7,8,9]))))))) fun v440 => .B fun _ hx541 => .st e (Ev.iaW e e e hx541) e (.st e (Ev.ldE (f := encI) e e (at_some hx541).2 e e e) e (.c0 e i q fun y542 _ => .c0 e i q fun _ _ => .j e (fun v552 => [(2,.ptr 0 0),(5,.ptr 1 0),(8,.sl 2 138 0 v552.length)]) (fun v552 => [(0,.box [.sl 3 3 0 (([] : (List Int)).length),VI 0,VI 0,VI 0,.sl 4 3 0 (([] : (List Int)).length),.sl 5 148 0 (([] : (List Spot)).length),VI 0]),(1,.box [.sl 6 3 0 y332.1.Man.Segs.length,VI y332.1.Man.Next,VI y332.1.Man.Base,VI y332.1.Man.BaseTerm,.sl 7 3 0 y332.1.Man.Conf.length,.sl 8 148 0 y332.1.Dir.length,VI y332.1.Stamp]),(2,.vec 138 (v552.map encRaw)),(3,.vec 3 (([] : (List Int)).map encI)),(4,.vec 3 (([] : (List Int)).map encI)),(5,.vec 148 (([] : (List Spot)).map encSpot)),(6,.vec 3 (y332.1.Man.Segs.map encI)),(7,.vec 3 (y332.1.Man.Conf.map encI)),(8,.vec 148 (y332.1.Dir.map encSpot))]) (fun _ => .a e e (.B fun x556 hx556 => .st e (Ev.ssH e e hx556) e (.st e (Ev.bsW (ys := ([(Raw.mk 1 y542 (⟨#[]⟩ : ByteArray) x556)] : List Raw)) (f := encRaw) e (.d4 .nil) e e e e e) e (.B fun _ hx557 => .st e (Ev.apW (f := encRaw) (ontoW e e e) (addsW e e e (fun _ => e)) e bt138 e hx557) e (.J e (.k [2,5,8] [1,2,66648,4,5,6,7,8,9]))))) (.J e (.k [2,5,8] [1,2,3,4,5,6,7,8,9]))) fun v552 => .Ek [6,7,8,2] e e e)))))
def spec_ShelfMap_l1 (N : Nat) (x1 : Disk) (x2 : Shelf) : Nat → Int → (List Pair) → Option (((List Pair) × Bool) ⊕ ((List Pair)))
 | 0,_,_ => none
 | m + 1,x397,x406 =>
 (if (decide (x397 < (x2.Dir.length : Int))) = true then
 (at? x2.Dir x397).bind fun x471 =>
 (spec_SegName N x471.Seg).bind fun y478 =>
 (spec_l03Text N x1 y478).bind fun y479 =>
 (if (decide ((w64 (x471.At + x471.Size)) > (y479.size : Int))) = true then
 some (Sum.inl (([] : List Pair),false))
 else
 (scut? y479 x471.At (w64 (x471.At + x471.Size))).bind fun x484 =>
 (cat? x406 ([(Pair.mk x471.Key x484)] : List Pair)).bind fun x485 =>
 spec_ShelfMap_l1 N x1 x2 m (w64 (x397 + 1)) x485)
 else
 some (Sum.inr x406))
def spec_ShelfMap (N : Nat) (x1 : Disk) (x2 : Shelf) : Option ((List Pair) × Bool) :=
 (spec_DiskOk N x1).bind fun y303 =>
 (if (!y303) = true then
 some (([] : List Pair),false)
 else
 (spec_DirOk N x2.Dir).bind fun y305 =>
 (if (!y305) = true then
 some (([] : List Pair),false)
 else
 joinP (fun (v396 : (List Pair)) =>
 some (v396,true)) fun j396 =>
 (spec_ShelfMap_l1 N x1 x2 N 0 ([] : List Pair)).bind (Sum.elim (fun v445 => some v445) (fun (v446 : (List Pair)) => j396 v446))))
instance i94 (N : Nat) (x1 : Disk) (x2 : Shelf) : Sem Tryz.prog 21 (spec_ShelfMap N x1 x2) [.agg [RO 141 (x1.Files.map encFile)],.agg [RO 3 (x2.Man.Segs.map encI),VI x2.Man.Next,VI x2.Man.Base,VI x2.Man.BaseTerm,RO 3 (x2.Man.Conf.map encI),RO 148 (x2.Dir.map encSpot),VI x2.Stamp]] 0 [] (fun r => .tup [.sl 0 79 0 r.1.length,VB r.2]) (fun r => [(0,.vec 79 (r.1.map encPair))]) := .st e e Tryz.call21 fun B r => .st e (Ev.bsW (ys := ([] : List Pair)) (f := encPair) e .nil e e e e e) e (.q e (.q e (.c0 e i q fun _ _ => .a e e (.Ek [5096] e e e) (.c0 e i q fun _ _ => .a e e (.Ek [5096] e e e) (.j e (fun v396 => [(6,.sl 0 79 0 v396.length)]) (fun v396 => [(0,.vec 79 (v396.map encPair))]) (fun _ => .L2 e (fun x397 x406 => [(2,.ptr 0 0),(3,.ptr 1 0),(6,.sl 2 79 0 x406.length),(7,VI x397)]) (fun x397 x406 => [(0,.box [RO 141 (x1.Files.map encFile)]),(1,.box [RO 3 (x2.Man.Segs.map encI),VI x2.Man.Next,VI x2.Man.Base,VI x2.Man.BaseTerm,RO 3 (x2.Man.Conf.map encI),RO 148 (x2.Dir.map encSpot),VI x2.Stamp]),(2,.vec 79 (x406.map encPair))]) (.k [2,3,6,7] [1000,1016,5096]) fun _ x397 x406 _ hk446 => .q e (.st e (Ev.lnF e) e (.a e e (.q e (.B fun x471 hx471 => .st e (Ev.iaF e e hx471) e (.c0 e i q fun _ _ => .c0 e i q fun _ _ => .dn e (.q e (.a e e (.st e (Ev.bsW (ys := ([] : List Pair)) (f := encPair) e .nil e e e e e) e (.Xr hk446 e e (.il (.e e (.Ek [41960] e e e))))) (.B fun x484 hx484 => .st e (Ev.ssB e e e hx484) e (.st e (Ev.bsW (ys := ([(Pair.mk x471.Key x484)] : List Pair)) (f := encPair) e (.d2 .nil) e e e e e) e (.B fun _ hx485 => .st e (Ev.apW (f := encPair) (ontoW e e e) (addsW e e e (fun _ => e)) e bt79 e hx485) e (.dn e (.R e (fun h => ⟨_,_,h,e,e⟩) (.k [2,3,6,7] [0,1,46280]))))))))))) (.X hk446 e e (.ir (.n e (.J e (.k [6] [2])))))))) fun v396 => .Ek [0] e e e)))))
def spec_CommandOk (N : Nat) (x1 : Command) : Option (Bool) :=
 (spec_l01In N x1.Op 1 5).bind fun y167 =>
 (if (!y167) = true then
 some false
 else
 (spec_l01In N x1.Session 0 100000).bind fun y169 =>
 (if (!y169) = true then
 some false
 else
 (spec_l01In N x1.Seq 0 100000).bind fun y171 =>
 (if (!y171) = true then
 some false
 else
 (if (decide ((x1.Value.size : Int) > 12)) = true then
 some false
 else
 (if (decide ((x1.Old.size : Int) > 12)) = true then
 some false
 else
 (if (x1.Op == 1) = true then
 some (((x1.Op == 1) && ((x1.Session == 0) && ((x1.Seq == 0) && (decide (x1.Key = (⟨#[]⟩ : ByteArray)) && (decide (x1.Value = (⟨#[]⟩ : ByteArray)) && (decide (x1.Old = (⟨#[]⟩ : ByteArray)) && true)))))) ^^ false)
 else
 (spec_l01In N (x1.Key.size : Int) 1 9).bind fun y181 =>
 (if (!y181) = true then
 some false
 else
 (if (x1.Op == 2) = true then
 (if (decide (x1.Value = (⟨#[]⟩ : ByteArray))) = true then
 some (decide (x1.Old = (⟨#[]⟩ : ByteArray)))
 else
 some false)
 else
 (if (x1.Op == 4) = true then
 (if (decide (x1.Value = (⟨#[]⟩ : ByteArray))) = true then
 some (decide (x1.Old = (⟨#[]⟩ : ByteArray)))
 else
 some false)
 else
 (if (x1.Op == 3) = true then
 some (decide (x1.Old = (⟨#[]⟩ : ByteArray)))
 else
 some true))))))))))
instance i95 (N : Nat) (x1 : Command) : Sem Tryz.prog 181 (spec_CommandOk N x1) [.agg [VI x1.Op,VI x1.Session,VI x1.Seq,VS x1.Key,VS x1.Value,VS x1.Old]] 0 [] (fun r => VB r) (fun r => []) := .so s181 e Tryz.call181 fun B r => .q e (.q e (.c0 e i q fun _ _ => .a e e (.Ek [] e e e) (.c0 e i q fun _ _ => .a e e (.Ek [] e e e) (.c0 e i q fun _ _ => .a e e (.Ek [] e e e) (.a e e (.Ek [] e e e) (.a e e (.Ek [] e e e) (.q e (.a e e (.Ek [] e e e) (.q e (.c0 e i q fun _ _ => .a e e (.Ek [] e e e) (.q e (.q e (.a e e (.q e (.a e e (.Ek [] e e e) (.Ek [] e e e))) (.a e e (.q e (.a e e (.Ek [] e e e) (.Ek [] e e e))) (.a e e (.Ek [] e e e) (.Ek [] e e e))))))))))))))))
def spec_CommandText (N : Nat) (x1 : Command) : Option (ByteArray × Bool) :=
 (spec_CommandOk N x1).bind fun y130 =>
 (if (!y130) = true then
 some ((⟨#[]⟩ : ByteArray),false)
 else
 (spec_l01Var N x1.Session).bind fun y142 =>
 (scat? (strOf ([IntKind.wrap .u8 (x1.Op)] : List Int)) y142).bind fun x143 =>
 (spec_l01Var N x1.Seq).bind fun y144 =>
 (scat? x143 y144).bind fun x145 =>
 (spec_l05Short N x1.Key).bind fun y146 =>
 (scat? x145 y146).bind fun x147 =>
 (spec_l05Short N x1.Value).bind fun y148 =>
 (scat? x147 y148).bind fun x149 =>
 (spec_l05Short N x1.Old).bind fun y150 =>
 (scat? x149 y150).bind fun x151 =>
 some (x151,true))
instance i96 (N : Nat) (x1 : Command) : Sem Tryz.prog 179 (spec_CommandText N x1) [.agg [VI x1.Op,VI x1.Session,VI x1.Seq,VS x1.Key,VS x1.Value,VS x1.Old]] 0 [] (fun r => .tup [VS r.1,VB r.2]) (fun r => []) := .st e e Tryz.call179 fun B r => .q e (.c0 e i q fun _ _ => .a e e (.Ek [] e e e) (.st e (Ev.bsW (ys := ([IntKind.wrap .u8 (x1.Op)] : List Int)) (f := encU) e (.d1 .nil) e e e e e) e (.st e (.sbC (addsW (f := encU) e e e (fun _ => e))) e (.c0 e i q fun _ _ => .B fun _ hx143 => .st e (Ev.addS e e hx143) e (.c0 e i q fun _ _ => .B fun _ hx145 => .st e (Ev.addS e e hx145) e (.c0 e i q fun _ _ => .B fun _ hx147 => .st e (Ev.addS e e hx147) e (.c0 e i q fun _ _ => .B fun _ hx149 => .st e (Ev.addS e e hx149) e (.c0 e i q fun _ _ => .B fun _ hx151 => .st e (Ev.addS e e hx151) e (.dn e (.Ek [] e e e))))))))))
def spec_ReadCommand (N : Nat) (x1 : ByteArray) : Option (Command × Bool) :=
 (spec_l05Take N (Tl05Cur.mk x1 0 false) 1).bind fun y147 =>
 (if y147.2.bad = true then
 some ((Command.mk 0 0 0 (⟨#[]⟩ : ByteArray) (⟨#[]⟩ : ByteArray) (⟨#[]⟩ : ByteArray)),false)
 else
 (sat? y147.1 0).bind fun x153 =>
 (spec_l05Var N y147.2).bind fun y157 =>
 (spec_l05Var N y157.2).bind fun y161 =>
 (spec_l05ReadShort N y161.2).bind fun y165 =>
 (spec_l05ReadShort N y165.2).bind fun y169 =>
 (spec_l05ReadShort N y169.2).bind fun y173 =>
 (spec_CommandText N (Command.mk (w64 (x153)) y157.1 y161.1 y165.1 y169.1 y173.1)).bind fun y177 =>
 (if y173.2.bad = true then
 some ((Command.mk 0 0 0 (⟨#[]⟩ : ByteArray) (⟨#[]⟩ : ByteArray) (⟨#[]⟩ : ByteArray)),false)
 else
 (if (!y177.2) = true then
 some ((Command.mk 0 0 0 (⟨#[]⟩ : ByteArray) (⟨#[]⟩ : ByteArray) (⟨#[]⟩ : ByteArray)),false)
 else
 (if (!decide (y177.1 = x1)) = true then
 some ((Command.mk 0 0 0 (⟨#[]⟩ : ByteArray) (⟨#[]⟩ : ByteArray) (⟨#[]⟩ : ByteArray)),false)
 else
 some ((Command.mk (w64 (x153)) y157.1 y161.1 y165.1 y169.1 y173.1),true)))))
instance i97 (N : Nat) (x1 : ByteArray) : Sem Tryz.prog 115 (spec_ReadCommand N x1) [VS x1] 0 [] (fun r => .tup [.agg [VI r.1.Op,VI r.1.Session,VI r.1.Seq,VS r.1.Key,VS r.1.Value,VS r.1.Old],VB r.2]) (fun r => []) := .st e e Tryz.call115 fun B r => .f [5128] [] 0 e i q fun _ _ => .q e (.a e e (.Ek [] e e e) (.B fun _ hx153 => .st e (Ev.ixS e e hx153) e (.f [5128] [] 0 e i q fun _ _ => .f [5128] [] 0 e i q fun _ _ => .f [5128] [] 0 e i q fun _ _ => .f [5128] [] 0 e i q fun _ _ => .f [5128] [] 0 e i q fun _ _ => .c0 e i q fun _ _ => .q e (.q e (.a e e (.Ek [] e e e) (.a e e (.Ek [] e e e) (.a e e (.Ek [] e e e) (.Ek [] e e e))))))))
def spec_MapOk_l1 (N : Nat) (x1 : (List Pair)) : Nat → Int → Option ((Bool) ⊕ (Unit))
 | 0,_ => none
 | m + 1,x344 =>
 (if (decide (x344 < (x1.length : Int))) = true then
 joinP (fun (v404 : Unit) =>
 spec_MapOk_l1 N x1 m (w64 (x344 + 1))) fun j404 =>
 (at? x1 x344).bind fun x413 =>
 (spec_l05Key N x413.Key).bind fun y414 =>
 (if (!y414) = true then
 some (Sum.inl false)
 else
 (at? x1 x344).bind fun x416 =>
 (if (decide ((x416.Value.size : Int) > 40)) = true then
 some (Sum.inl false)
 else
 (if (decide (x344 > 0)) = true then
 (at? x1 (w64 (x344 - 1))).bind fun x419 =>
 (at? x1 x344).bind fun x420 =>
 (if (!Op.bytesLess x419.Key.toList x420.Key.toList) = true then
 some (Sum.inl false)
 else
 j404 ())
 else
 j404 ())))
 else
 some (Sum.inr ()))
def spec_MapOk_l1_r (N : Nat) (x1 : (List Pair)) : (List Pair) → Int → Option ((Bool) ⊕ (Unit))
 | [],x344 =>
 some (Sum.inr ())
 | hd :: tl,x344 =>
 joinP (fun (v404 : Unit) =>
 spec_MapOk_l1_r N x1 tl (w64 (x344 + 1))) fun j404 =>
 (some hd).bind fun x413 =>
 (spec_l05Key N x413.Key).bind fun y414 =>
 (if (!y414) = true then
 some (Sum.inl false)
 else
 (some hd).bind fun x416 =>
 (if (decide ((x416.Value.size : Int) > 40)) = true then
 some (Sum.inl false)
 else
 (if (decide (x344 > 0)) = true then
 (at? x1 (w64 (x344 - 1))).bind fun x419 =>
 (some hd).bind fun x420 =>
 (if (!Op.bytesLess x419.Key.toList x420.Key.toList) = true then
 some (Sum.inl false)
 else
 j404 ())
 else
 j404 ())))
theorem spec_MapOk_l1_rng (N : Nat) (x1 : (List Pair)) (hx : x1.length ≤ 1099511627776) : ∀ (d k m : Nat),x1.length = k + d → d < m → spec_MapOk_l1 N x1 m (k : Int) = spec_MapOk_l1_r N x1 (x1.drop k) (k : Int) := by
 intro d
 induction d with
 | zero =>
  intro k m hd hm
  obtain ⟨m,rfl⟩ : ∃ q,m = q + 1 := ⟨m - 1,by omega⟩
  rw [spec_MapOk_l1,if_neg (by simp; omega),List.drop_eq_nil_of_le (by omega),spec_MapOk_l1_r]
 | succ d ih =>
  intro k m hd hm
  obtain ⟨m,rfl⟩ : ∃ q,m = q + 1 := ⟨m - 1,by omega⟩
  have hk : k < x1.length := by omega
  rw [spec_MapOk_l1,if_pos (by simp; omega),List.drop_eq_getElem_cons hk,spec_MapOk_l1_r]
  have h1 := at_lt hk
  have h2 := w64_succ (k := k) (by omega)
  have h3 := ih (k + 1) m
  simp only [h1,h2,h3 (by omega) (by omega)]
theorem spec_MapOk_l1_eq {N : Nat} (x1 : (List Pair)) (hx : x1.length ≤ 1099511627776) (hN : x1.length < N) : spec_MapOk_l1 N x1 N 0 = spec_MapOk_l1_r N x1 x1 0 := spec_MapOk_l1_rng N x1 hx x1.length 0 N (by omega) hN
def spec_MapOk (N : Nat) (x1 : (List Pair)) : Option (Bool) :=
 (if (decide ((x1.length : Int) > 60)) = true then
 some false
 else
 joinP (fun (v342 : Unit) =>
 some true) fun j342 =>
 (spec_MapOk_l1 N x1 N 0).bind (Sum.elim (fun v382 => some v382) (fun (v383 : Unit) => j342 ())))
instance i98 (N : Nat) (x1 : (List Pair)) : Sem Tryz.prog 180 (spec_MapOk N x1) [RO 79 (x1.map encPair)] 0 [] (fun r => VB r) (fun r => []) := .st e e Tryz.call180 fun B r => .q e (.st e (Ev.lnF e) e (.a e e (.Ek [] e e e) (.j e (fun _ => []) (fun _ => []) (fun _ => .L1 e (fun x344 => [(0,RO 79 (x1.map encPair)),(3,VI x344)]) (fun x344 => []) (.k [0,3] []) fun _ x344 _ hk383 => .q e (.st e (Ev.lnF e) e (.a e e (.j e (fun _ => [(0,RO 79 (x1.map encPair)),(3,VI x344)]) (fun _ => []) (fun _ => .q e (.B fun _ hx413 => .st e (Ev.iaF e e hx413) e (.c0 e i q fun _ _ => .a e e (.dn e (.Xr hk383 e e (.il (.e e (.Ek [] e e e))))) (.B fun _ hx416 => .st e (Ev.iaF e e hx416) e (.a e e (.dn e (.Xr hk383 e e (.il (.e e (.Ek [] e e e))))) (.a e e (.B fun _ hx419 => .st e (Ev.iaF e e hx419) e (.B fun _ hx420 => .st e (Ev.iaF e e hx420) e (.dn e (.a e e (.Xr hk383 e e (.il (.e e (.Ek [] e e e)))) (.J e (.k [0,3] [])))))) (.dn e (.J e (.k [0,3] []))))))))) fun _ => .R e (fun h => ⟨_,h,e,e⟩) (.k [0,3] [])) (.X hk383 e e (.ir (.n e (.J e (.k [] [])))))))) fun _ => .Ek [] e e e)))
def spec_l15Read_l1 (N : Nat) (x2 : ByteArray) : Nat → Int → Option (Int)
 | 0,_ => none
 | m + 1,x276 =>
 (if (decide (x276 < (x2.size : Int))) = true then
 (sat? x2 x276).bind fun x301 =>
 (if (x301 != 32) = true then
 spec_l15Read_l1 N x2 m (w64 (x276 + 1))
 else
 some x276)
 else
 some x276)
def spec_l15Read_l2 (N : Nat) (x2 : ByteArray) : Nat → Int → Option (Int)
 | 0,_ => none
 | m + 1,x337 =>
 (if (decide (x337 < (x2.size : Int))) = true then
 (sat? x2 x337).bind fun x362 =>
 (if (x362 != 32) = true then
 spec_l15Read_l2 N x2 m (w64 (x337 + 1))
 else
 some x337)
 else
 some x337)
def spec_l15Read (N : Nat) (x1 : Int) (x2 : ByteArray) : Option (Tl15State × Bool) :=
 joinP (fun (v273 : Int) =>
 joinP (fun (v333 : Int) =>
 (if (decide (v333 ≥ (x2.size : Int))) = true then
 some ((Tl15State.mk x1 0 0 (⟨#[]⟩ : ByteArray)),false)
 else
 (stake? x2 v273).bind fun x372 =>
 (spec_ReadDecimal N x372).bind fun y373 =>
 (scut? x2 (w64 (v273 + 1)) v333).bind fun x380 =>
 (spec_ReadDecimal N x380).bind fun y381 =>
 (sdrop? x2 (w64 (v333 + 1))).bind fun x385 =>
 (if y373.2 = true then
 some ((Tl15State.mk x1 y373.1 y381.1 x385),y381.2)
 else
 some ((Tl15State.mk x1 y373.1 y381.1 x385),false)))) fun j333 =>
 (spec_l15Read_l2 N x2 N (w64 (v273 + 1))).bind (fun v352 => j333 v352)) fun j273 =>
 (spec_l15Read_l1 N x2 N 0).bind (fun v291 => j273 v291)
instance i99 (N : Nat) (x1 : Int) (x2 : ByteArray) : Sem Tryz.prog 229 (spec_l15Read N x1 x2) [VI x1,VS x2] 0 [] (fun r => .tup [.agg [VI r.1.id,VI r.1.seq,VI r.1.at',VS r.1.reply],VB r.2]) (fun r => []) := .st e e Tryz.call229 fun B r => .j e (fun v273 => [(0,VI x1),(1,VS x2),(4,.ptr 0 0),(6,VI v273)]) (fun v273 => [(0,.box [VI 0,VI 0,VI 0,VS (⟨#[]⟩ : ByteArray)])]) (fun _ => .L1 e (fun x276 => [(0,VI x1),(1,VS x2),(4,.ptr 0 0),(6,VI x276)]) (fun x276 => [(0,.box [VI 0,VI 0,VI 0,VS (⟨#[]⟩ : ByteArray)])]) (.k [0,1,4,6] [1000]) fun _ x276 _ hk291 => .q e (.q e (.a e e (.B fun _ hx301 => .st e (Ev.ixS e e hx301) e (.a e e (.R e (fun h => ⟨_,h,e,e⟩) (.k [0,1,4,6] [0])) (.X hk291 e e (.n e (.J e (.k [0,1,4,6] [0])))))) (.X hk291 e e (.n e (.J e (.k [0,1,4,6] [0]))))))) fun v273 => .j e (fun v333 => [(0,VI x1),(1,VS x2),(4,.ptr 0 0),(6,VI v273),(7,VI v333)]) (fun v333 => [(0,.box [VI 0,VI 0,VI 0,VS (⟨#[]⟩ : ByteArray)])]) (fun _ => .L1 e (fun x337 => [(0,VI x1),(1,VS x2),(4,.ptr 0 0),(6,VI v273),(7,VI x337)]) (fun x337 => [(0,.box [VI 0,VI 0,VI 0,VS (⟨#[]⟩ : ByteArray)])]) (.k [0,1,4,6,7] [0]) fun _ x337 _ hk352 => .q e (.q e (.a e e (.B fun _ hx362 => .st e (Ev.ixS e e hx362) e (.a e e (.R e (fun h => ⟨_,h,e,e⟩) (.k [0,1,4,6,7] [0])) (.X hk352 e e (.n e (.J e (.k [0,1,4,6,7] [0])))))) (.X hk352 e e (.n e (.J e (.k [0,1,4,6,7] [0]))))))) fun v333 => .q e (.a e e (.Ek [] e e e) (.B fun _ hx372 => .st e (Ev.ssH e e hx372) e (.c0 e i q fun _ _ => .B fun _ hx380 => .st e (Ev.ssB e e e hx380) e (.c0 e i q fun _ _ => .B fun _ hx385 => .st e (Ev.ssL e e hx385) e (.q e (.a e e (.Ek [] e e e) (.Ek [] e e e)))))))
def spec_l15Sessions_l2 (N : Nat) (x1520 : (List Tl15State)) (y1896 : Int × Bool) : Nat → Int → Option (Int)
 | 0,_ => none
 | m + 1,x1946 =>
 (if (decide (x1946 > 0)) = true then
 (at? x1520 (w64 (x1946 - 1))).bind fun x1972 =>
 (if (decide (x1972.id > y1896.1)) = true then
 spec_l15Sessions_l2 N x1520 y1896 m (w64 (x1946 - 1))
 else
 some x1946)
 else
 some x1946)
def spec_l15Sessions_l1 (N : Nat) (x1 : (List Pair)) : Nat → Int → (List Tl15State) → Option (((List Tl15State) × Bool) ⊕ ((List Tl15State)))
 | 0,_,_ => none
 | m + 1,x1519,x1520 =>
 (if (decide (x1519 < (x1.length : Int))) = true then
 joinP (fun (v1874 : (List Tl15State)) =>
 spec_l15Sessions_l1 N x1 m (w64 (x1519 + 1)) v1874) fun j1874 =>
 (at? x1 x1519).bind fun x1882 =>
 (sat? x1882.Key 0).bind fun x1883 =>
 (if (x1883 != 115) = true then
 j1874 x1520
 else
 (at? x1 x1519).bind fun x1894 =>
 (sdrop? x1894.Key 1).bind fun x1895 =>
 (spec_ReadDecimal N x1895).bind fun y1896 =>
 (at? x1 x1519).bind fun x1903 =>
 (spec_l15Read N y1896.1 x1903.Value).bind fun y1904 =>
 (if (!y1896.2) = true then
 some (Sum.inl (x1520,false))
 else
 (if (!y1904.2) = true then
 some (Sum.inl (x1520,false))
 else
 joinP (fun (v1942 : Int) =>
 (take? x1520 v1942).bind fun x1980 =>
 (cat? ([] : List Tl15State) (x1520.take v1942.toNat)).bind fun x1981 =>
 (cat? x1981 ([y1904.1] : List Tl15State)).bind fun x1985 =>
 (drop? x1520 v1942).bind fun x1988 =>
 (cat? x1985 ((x1520.drop v1942.toNat).take (x1520.length - v1942.toNat))).bind fun x1989 =>
 j1874 x1989) fun j1942 =>
 (spec_l15Sessions_l2 N x1520 y1896 N ((x1520.length : Nat) : Int)).bind (fun v1962 => j1942 v1962))))
 else
 some (Sum.inr x1520))
def spec_l15Sessions_l1_r (N : Nat) (x1 : (List Pair)) : (List Pair) → Int → (List Tl15State) → Option (((List Tl15State) × Bool) ⊕ ((List Tl15State)))
 | [],x1519,x1520 =>
 some (Sum.inr x1520)
 | hd :: tl,x1519,x1520 =>
 joinP (fun (v1874 : (List Tl15State)) =>
 spec_l15Sessions_l1_r N x1 tl (w64 (x1519 + 1)) v1874) fun j1874 =>
 (some hd).bind fun x1882 =>
 (sat? x1882.Key 0).bind fun x1883 =>
 (if (x1883 != 115) = true then
 j1874 x1520
 else
 (some hd).bind fun x1894 =>
 (sdrop? x1894.Key 1).bind fun x1895 =>
 (spec_ReadDecimal N x1895).bind fun y1896 =>
 (some hd).bind fun x1903 =>
 (spec_l15Read N y1896.1 x1903.Value).bind fun y1904 =>
 (if (!y1896.2) = true then
 some (Sum.inl (x1520,false))
 else
 (if (!y1904.2) = true then
 some (Sum.inl (x1520,false))
 else
 joinP (fun (v1942 : Int) =>
 (take? x1520 v1942).bind fun x1980 =>
 (cat? ([] : List Tl15State) (x1520.take v1942.toNat)).bind fun x1981 =>
 (cat? x1981 ([y1904.1] : List Tl15State)).bind fun x1985 =>
 (drop? x1520 v1942).bind fun x1988 =>
 (cat? x1985 ((x1520.drop v1942.toNat).take (x1520.length - v1942.toNat))).bind fun x1989 =>
 j1874 x1989) fun j1942 =>
 (spec_l15Sessions_l2 N x1520 y1896 N ((x1520.length : Nat) : Int)).bind (fun v1962 => j1942 v1962))))
theorem spec_l15Sessions_l1_rng (N : Nat) (x1 : (List Pair)) (hx : x1.length ≤ 1099511627776) : ∀ (d k m : Nat) (x1520 : (List Tl15State)),x1.length = k + d → d < m → spec_l15Sessions_l1 N x1 m (k : Int) x1520 = spec_l15Sessions_l1_r N x1 (x1.drop k) (k : Int) x1520 := by
 intro d
 induction d with
 | zero =>
  intro k m x1520 hd hm
  obtain ⟨m,rfl⟩ : ∃ q,m = q + 1 := ⟨m - 1,by omega⟩
  rw [spec_l15Sessions_l1,if_neg (by simp; omega),List.drop_eq_nil_of_le (by omega),spec_l15Sessions_l1_r]
 | succ d ih =>
  intro k m x1520 hd hm
  obtain ⟨m,rfl⟩ : ∃ q,m = q + 1 := ⟨m - 1,by omega⟩
  have hk : k < x1.length := by omega
  rw [spec_l15Sessions_l1,if_pos (by simp; omega),List.drop_eq_getElem_cons hk,spec_l15Sessions_l1_r]
  have h1 := at_lt hk
  have h2 := w64_succ (k := k) (by omega)
  have h3 := ih (k + 1) m
  simp only [h1,h2,h3 _ (by omega) (by omega)]
theorem spec_l15Sessions_l1_eq {N : Nat} (x1 : (List Pair)) (hx : x1.length ≤ 1099511627776) (hN : x1.length < N) (x1520 : (List Tl15State)) : spec_l15Sessions_l1 N x1 N 0 x1520 = spec_l15Sessions_l1_r N x1 x1 0 x1520 := spec_l15Sessions_l1_rng N x1 hx x1.length 0 N x1520 (by omega) hN
def spec_l15Sessions (N : Nat) (x1 : (List Pair)) : Option ((List Tl15State) × Bool) :=
 joinP (fun (v1517 : (List Tl15State)) =>
 some (v1517,true)) fun j1517 =>
 (spec_l15Sessions_l1 N x1 N 0 ([] : List Tl15State)).bind (Sum.elim (fun v1754 => some v1754) (fun (v1755 : (List Tl15State)) => j1517 v1755))
instance i100 (N : Nat) (x1 : (List Pair)) : Sem Tryz.prog 182 (spec_l15Sessions N x1) [RO 79 (x1.map encPair)] 0 [] (fun r => .tup [.sl 0 285 0 r.1.length,VB r.2]) (fun r => [(0,.vec 285 (r.1.map encTl15State))]) := .st e e Tryz.call182 fun B r => .st e (Ev.bsW (ys := ([] : List Tl15State)) (f := encTl15State) e .nil e e e e e) e (.j e (fun v1517 => [(4,.sl 0 285 0 v1517.length)]) (fun v1517 => [(0,.vec 285 (v1517.map encTl15State))]) (fun _ => .L2 e (fun x1519 x1520 => [(0,RO 79 (x1.map encPair)),(4,.sl 0 285 0 x1520.length),(5,VI x1519)]) (fun x1519 x1520 => [(0,.vec 285 (x1520.map encTl15State))]) (.k [0,4,5] [5096]) fun _ x1519 x1520 _ hk1755 => .q e (.st e (Ev.lnF e) e (.a e e (.j e (fun v1874 => [(0,RO 79 (x1.map encPair)),(4,.sl 0 285 0 v1874.length),(5,VI x1519)]) (fun v1874 => [(0,.vec 285 (v1874.map encTl15State))]) (fun _ => .q e (.B fun _ hx1882 => .st e (Ev.iaF e e hx1882) e (.B fun _ hx1883 => .st e (Ev.ixS e e hx1883) e (.a e e (.J e (.k [0,4,5] [0])) (.B fun _ hx1894 => .st e (Ev.iaF e e hx1894) e (.B fun _ hx1895 => .st e (Ev.ssL e e hx1895) e (.c0 e i q fun y1896 _ => .B fun _ hx1903 => .st e (Ev.iaF e e hx1903) e (.c0 e i q fun y1904 _ => .q e (.q e (.a e e (.Xr hk1755 e e (.il (.e e (.Ek [0] e e e)))) (.a e e (.Xr hk1755 e e (.il (.e e (.Ek [0] e e e)))) (.j e (fun v1942 => [(0,RO 79 (x1.map encPair)),(4,.sl 0 285 0 x1520.length),(5,VI x1519),(8,.ptr 1 0),(10,VI v1942)]) (fun v1942 => [(0,.vec 285 (x1520.map encTl15State)),(1,.box [VI y1904.1.id,VI y1904.1.seq,VI y1904.1.at',VS y1904.1.reply])]) (fun _ => .L1 e (fun x1946 => [(0,RO 79 (x1.map encPair)),(4,.sl 0 285 0 x1520.length),(5,VI x1519),(6,VI y1896.1),(8,.ptr 1 0),(10,VI x1946)]) (fun x1946 => [(0,.vec 285 (x1520.map encTl15State)),(1,.box [VI y1904.1.id,VI y1904.1.seq,VI y1904.1.at',VS y1904.1.reply])]) (.k [0,4,5,6,8,10] [0,29832]) fun _ x1946 _ hk1962 => .q e (.q e (.a e e (.B fun _ hx1972 => .st e (Ev.iaW e e e hx1972) e (.st e (Ev.ldE (f := encTl15State) e e (at_some hx1972).2 e e e) e (.a e e (.R e (fun h => ⟨_,h,e,e⟩) (.k [0,4,5,6,8,10] [0,1])) (.X hk1962 e e (.n e (.J e (.k [0,4,5,8,10] [0,1]))))))) (.X hk1962 e e (.n e (.J e (.k [0,4,5,8,10] [0,1]))))))) fun v1942 => .st e (Ev.bsW (ys := ([] : List Tl15State)) (f := encTl15State) e .nil e e e e e) e (.B fun _ hx1980 => .st e (Ev.slWh (xs := x1520) e e e hx1980) e (.B fun _ hx1981 => .st e (Ev.apW (f := encTl15State) (ontoW e e e) (addsP e e (fun _ => e)) e bt285 e hx1981) e (.st e (Ev.bsW (ys := ([y1904.1] : List Tl15State)) (f := encTl15State) e (.d4 .nil) e e e e e) e (.B fun _ hx1985 => .st e (Ev.apW (f := encTl15State) (ontoW e e e) (addsW e e e (fun _ => e)) e bt285 e hx1985) e (.B fun _ hx1988 => .st e (Ev.slWl (xs := x1520) e e e hx1988) e (.B fun _ hx1989 => .st e (Ev.apW (f := encTl15State) (ontoW e e e) (addsP e e (fun _ => e)) e bt285 e hx1989) e (.J e (.k [0,4,5] [62504])))))))))))))))))))) fun v1874 => .R e (fun h => ⟨_,_,h,e,e⟩) (.k [0,4,5] [0])) (.X hk1755 e e (.ir (.n e (.J e (.k [4] [0])))))))) fun v1517 => .Ek [0] e e e)
def spec_l06At_l1 (N : Nat) (x1 : (List Pair)) (x2 : ByteArray) : Nat → Int → Option ((Int) ⊕ (Unit))
 | 0,_ => none
 | m + 1,x170 =>
 (if (decide (x170 < (x1.length : Int))) = true then
 (at? x1 x170).bind fun x188 =>
 (if (decide (x188.Key = x2)) = true then
 some (Sum.inl x170)
 else
 spec_l06At_l1 N x1 x2 m (w64 (x170 + 1)))
 else
 some (Sum.inr ()))
def spec_l06At_l1_r (N : Nat) (x1 : (List Pair)) (x2 : ByteArray) : (List Pair) → Int → Option ((Int) ⊕ (Unit))
 | [],x170 =>
 some (Sum.inr ())
 | hd :: tl,x170 =>
 (some hd).bind fun x188 =>
 (if (decide (x188.Key = x2)) = true then
 some (Sum.inl x170)
 else
 spec_l06At_l1_r N x1 x2 tl (w64 (x170 + 1)))
theorem spec_l06At_l1_rng (N : Nat) (x1 : (List Pair)) (x2 : ByteArray) (hx : x1.length ≤ 1099511627776) : ∀ (d k m : Nat),x1.length = k + d → d < m → spec_l06At_l1 N x1 x2 m (k : Int) = spec_l06At_l1_r N x1 x2 (x1.drop k) (k : Int) := by
 intro d
 induction d with
 | zero =>
  intro k m hd hm
  obtain ⟨m,rfl⟩ : ∃ q,m = q + 1 := ⟨m - 1,by omega⟩
  rw [spec_l06At_l1,if_neg (by simp; omega),List.drop_eq_nil_of_le (by omega),spec_l06At_l1_r]
 | succ d ih =>
  intro k m hd hm
  obtain ⟨m,rfl⟩ : ∃ q,m = q + 1 := ⟨m - 1,by omega⟩
  have hk : k < x1.length := by omega
  rw [spec_l06At_l1,if_pos (by simp; omega),List.drop_eq_getElem_cons hk,spec_l06At_l1_r]
  have h1 := at_lt hk
  have h2 := w64_succ (k := k) (by omega)
  have h3 := ih (k + 1) m
  simp only [h1,h2,h3 (by omega) (by omega)]
theorem spec_l06At_l1_eq {N : Nat} (x1 : (List Pair)) (x2 : ByteArray) (hx : x1.length ≤ 1099511627776) (hN : x1.length < N) : spec_l06At_l1 N x1 x2 N 0 = spec_l06At_l1_r N x1 x2 x1 0 := spec_l06At_l1_rng N x1 x2 hx x1.length 0 N (by omega) hN
def spec_l06At (N : Nat) (x1 : (List Pair)) (x2 : ByteArray) : Option (Int) :=
 joinP (fun (v167 : Unit) =>
 some (-1 : Int)) fun j167 =>
 (spec_l06At_l1 N x1 x2 N 0).bind (Sum.elim (fun v179 => some v179) (fun (v180 : Unit) => j167 ()))
instance i101 (N : Nat) (x1 : (List Pair)) (x2 : ByteArray) : Sem Tryz.prog 232 (spec_l06At N x1 x2) [RO 79 (x1.map encPair),VS x2] 0 [] (fun r => VI r) (fun r => []) := .st e e Tryz.call232 fun B r => .j e (fun _ => []) (fun _ => []) (fun _ => .L1 e (fun x170 => [(0,RO 79 (x1.map encPair)),(1,VS x2),(5,VI x170)]) (fun x170 => []) (.k [0,1,5] []) fun _ x170 _ hk180 => .q e (.st e (Ev.lnF e) e (.a e e (.q e (.B fun _ hx188 => .st e (Ev.iaF e e hx188) e (.a e e (.Xr hk180 e e (.il (.e e (.Ek [] e e e)))) (.R e (fun h => ⟨_,h,e,e⟩) (.k [0,1,5] []))))) (.X hk180 e e (.ir (.n e (.J e (.k [] [])))))))) fun _ => .Ek [] e e e
def spec_l06Get (N : Nat) (x1 : (List Pair)) (x2 : ByteArray) : Option (ByteArray) :=
 (spec_l06At N x1 x2).bind fun y111 =>
 (if (decide (y111 < 0)) = true then
 some (⟨#[]⟩ : ByteArray)
 else
 (at? x1 y111).bind fun x115 =>
 some x115.Value)
instance i102 (N : Nat) (x1 : (List Pair)) (x2 : ByteArray) : Sem Tryz.prog 233 (spec_l06Get N x1 x2) [RO 79 (x1.map encPair),VS x2] 0 [] (fun r => VS r) (fun r => []) := .st e e Tryz.call233 fun B r => .c0 e i q fun _ _ => .q e (.a e e (.Ek [] e e e) (.B fun _ hx115 => .st e (Ev.iaF e e hx115) e (.Ek [] e e e)))
def spec_l15Next (N : Nat) (x1 : (List Pair)) : Option (Int × Bool) :=
 (spec_l06At N x1 (⟨#[110]⟩ : ByteArray)).bind fun y114 =>
 (if (decide (y114 < 0)) = true then
 some (1,true)
 else
 (spec_l06Get N x1 (⟨#[110]⟩ : ByteArray)).bind fun y118 =>
 (spec_ReadDecimal N y118).bind fun y119 =>
 some (y119.1,y119.2))
instance i103 (N : Nat) (x1 : (List Pair)) : Sem Tryz.prog 230 (spec_l15Next N x1) [RO 79 (x1.map encPair)] 0 [] (fun r => .tup [VI r.1,VB r.2]) (fun r => []) := .st e e Tryz.call230 fun B r => .q e (.c0 e i q fun _ _ => .a e e (.Ek [] e e e) (.c0 e i q fun _ _ => .c0 e i q fun _ _ => .Ek [] e e e))
def spec_l15Key (N : Nat) (x1 : Int) : Option (ByteArray) :=
 (spec_Decimal N x1).bind fun y106 =>
 (scat? (⟨#[115]⟩ : ByteArray) y106).bind fun x107 =>
 some x107
instance i104 (N : Nat) (x1 : Int) : Sem Tryz.prog 186 (spec_l15Key N x1) [VI x1] 0 [] (fun r => VS r) (fun r => []) := .st e e Tryz.call186 fun B r => .c0 e i q fun _ _ => .B fun _ hx107 => .st e (Ev.addS e e hx107) e (.Ek [] e e e)
def spec_l06Cut_l1 (N : Nat) (x1 : (List Pair)) (x2 : ByteArray) : Nat → Int → (List Pair) → Option ((List Pair))
 | 0,_,_ => none
 | m + 1,x224,x225 =>
 (if (decide (x224 < (x1.length : Int))) = true then
 joinP (fun (v254 : (List Pair)) =>
 spec_l06Cut_l1 N x1 x2 m (w64 (x224 + 1)) v254) fun j254 =>
 (at? x1 x224).bind fun x256 =>
 (if (!decide (x256.Key = x2)) = true then
 (at? x1 x224).bind fun x260 =>
 (cat? x225 ([x260] : List Pair)).bind fun x261 =>
 j254 x261
 else
 j254 x225)
 else
 some x225)
def spec_l06Cut_l1_r (N : Nat) (x1 : (List Pair)) (x2 : ByteArray) : (List Pair) → Int → (List Pair) → Option ((List Pair))
 | [],x224,x225 =>
 some x225
 | hd :: tl,x224,x225 =>
 joinP (fun (v254 : (List Pair)) =>
 spec_l06Cut_l1_r N x1 x2 tl (w64 (x224 + 1)) v254) fun j254 =>
 (some hd).bind fun x256 =>
 (if (!decide (x256.Key = x2)) = true then
 (some hd).bind fun x260 =>
 (cat? x225 ([x260] : List Pair)).bind fun x261 =>
 j254 x261
 else
 j254 x225)
theorem spec_l06Cut_l1_rng (N : Nat) (x1 : (List Pair)) (x2 : ByteArray) (hx : x1.length ≤ 1099511627776) : ∀ (d k m : Nat) (x225 : (List Pair)),x1.length = k + d → d < m → spec_l06Cut_l1 N x1 x2 m (k : Int) x225 = spec_l06Cut_l1_r N x1 x2 (x1.drop k) (k : Int) x225 := by
 intro d
 induction d with
 | zero =>
  intro k m x225 hd hm
  obtain ⟨m,rfl⟩ : ∃ q,m = q + 1 := ⟨m - 1,by omega⟩
  rw [spec_l06Cut_l1,if_neg (by simp; omega),List.drop_eq_nil_of_le (by omega),spec_l06Cut_l1_r]
 | succ d ih =>
  intro k m x225 hd hm
  obtain ⟨m,rfl⟩ : ∃ q,m = q + 1 := ⟨m - 1,by omega⟩
  have hk : k < x1.length := by omega
  rw [spec_l06Cut_l1,if_pos (by simp; omega),List.drop_eq_getElem_cons hk,spec_l06Cut_l1_r]
  have h1 := at_lt hk
  have h2 := w64_succ (k := k) (by omega)
  have h3 := ih (k + 1) m
  simp only [h1,h2,h3 _ (by omega) (by omega)]
theorem spec_l06Cut_l1_eq {N : Nat} (x1 : (List Pair)) (x2 : ByteArray) (hx : x1.length ≤ 1099511627776) (hN : x1.length < N) (x225 : (List Pair)) : spec_l06Cut_l1 N x1 x2 N 0 x225 = spec_l06Cut_l1_r N x1 x2 x1 0 x225 := spec_l06Cut_l1_rng N x1 x2 hx x1.length 0 N x225 (by omega) hN
def spec_l06Cut (N : Nat) (x1 : (List Pair)) (x2 : ByteArray) : Option ((List Pair)) :=
 joinP (fun (v221 : (List Pair)) =>
 some v221) fun j221 =>
 (spec_l06Cut_l1 N x1 x2 N 0 ([] : List Pair)).bind (fun v243 => j221 v243)
instance i105 (N : Nat) (x1 : (List Pair)) (x2 : ByteArray) : Sem Tryz.prog 231 (spec_l06Cut N x1 x2) [RO 79 (x1.map encPair),VS x2] 0 [] (fun r => .sl 0 79 0 r.length) (fun r => [(0,.vec 79 (r.map encPair))]) := .st e e Tryz.call231 fun B r => .st e (Ev.bsW (ys := ([] : List Pair)) (f := encPair) e .nil e e e e e) e (.j e (fun v221 => [(5,.sl 0 79 0 v221.length)]) (fun v221 => [(0,.vec 79 (v221.map encPair))]) (fun _ => .L2 e (fun x224 x225 => [(0,RO 79 (x1.map encPair)),(1,VS x2),(5,.sl 0 79 0 x225.length),(6,VI x224)]) (fun x224 x225 => [(0,.vec 79 (x225.map encPair))]) (.k [0,1,5,6] [5096]) fun _ x224 x225 _ hk243 => .q e (.st e (Ev.lnF e) e (.a e e (.j e (fun v254 => [(0,RO 79 (x1.map encPair)),(1,VS x2),(5,.sl 0 79 0 v254.length),(6,VI x224)]) (fun v254 => [(0,.vec 79 (v254.map encPair))]) (fun _ => .B fun _ hx256 => .st e (Ev.iaF e e hx256) e (.a e e (.B fun x260 hx260 => .st e (Ev.iaF e e hx260) e (.st e (Ev.bsW (ys := ([x260] : List Pair)) (f := encPair) e (.d2 .nil) e e e e e) e (.B fun _ hx261 => .st e (Ev.apW (f := encPair) (ontoW e e e) (addsW e e e (fun _ => e)) e bt79 e hx261) e (.J e (.k [0,1,5,6] [25672]))))) (.J e (.k [0,1,5,6] [0])))) fun v254 => .R e (fun h => ⟨_,_,h,e,e⟩) (.k [0,1,5,6] [0])) (.X hk243 e e (.n e (.J e (.k [5] [0]))))))) fun v221 => .Ek [0] e e e)
def spec_l15Text (N : Nat) (x1 : Tl15State) : Option (ByteArray) :=
 (spec_Decimal N x1.seq).bind fun y118 =>
 (scat? y118 (⟨#[32]⟩ : ByteArray)).bind fun x119 =>
 (spec_Decimal N x1.at').bind fun y120 =>
 (scat? x119 y120).bind fun x121 =>
 (scat? x121 (⟨#[32]⟩ : ByteArray)).bind fun x122 =>
 (scat? x122 x1.reply).bind fun x123 =>
 some x123
instance i106 (N : Nat) (x1 : Tl15State) : Sem Tryz.prog 187 (spec_l15Text N x1) [.agg [VI x1.id,VI x1.seq,VI x1.at',VS x1.reply]] 0 [] (fun r => VS r) (fun r => []) := .st e e Tryz.call187 fun B r => .c0 e i q fun _ _ => .B fun _ hx119 => .st e (Ev.addS e e hx119) e (.c0 e i q fun _ _ => .B fun _ hx121 => .st e (Ev.addS e e hx121) e (.B fun _ hx122 => .st e (Ev.addS e e hx122) e (.B fun _ hx123 => .st e (Ev.addS e e hx123) e (.dn e (.Ek [] e e e)))))
def spec_l06Put_l1 (N : Nat) (x1 : (List Pair)) (x2 : ByteArray) : Nat → Int → (List Pair) → Option ((List Pair))
 | 0,_,_ => none
 | m + 1,x313,x314 =>
 (if (decide (x313 < (x1.length : Int))) = true then
 joinP (fun (v343 : (List Pair)) =>
 spec_l06Put_l1 N x1 x2 m (w64 (x313 + 1)) v343) fun j343 =>
 (at? x1 x313).bind fun x345 =>
 (if (Op.bytesLess x345.Key.toList x2.toList) = true then
 (at? x1 x313).bind fun x349 =>
 (cat? x314 ([x349] : List Pair)).bind fun x350 =>
 j343 x350
 else
 j343 x314)
 else
 some x314)
def spec_l06Put_l1_r (N : Nat) (x1 : (List Pair)) (x2 : ByteArray) : (List Pair) → Int → (List Pair) → Option ((List Pair))
 | [],x313,x314 =>
 some x314
 | hd :: tl,x313,x314 =>
 joinP (fun (v343 : (List Pair)) =>
 spec_l06Put_l1_r N x1 x2 tl (w64 (x313 + 1)) v343) fun j343 =>
 (some hd).bind fun x345 =>
 (if (Op.bytesLess x345.Key.toList x2.toList) = true then
 (some hd).bind fun x349 =>
 (cat? x314 ([x349] : List Pair)).bind fun x350 =>
 j343 x350
 else
 j343 x314)
theorem spec_l06Put_l1_rng (N : Nat) (x1 : (List Pair)) (x2 : ByteArray) (hx : x1.length ≤ 1099511627776) : ∀ (d k m : Nat) (x314 : (List Pair)),x1.length = k + d → d < m → spec_l06Put_l1 N x1 x2 m (k : Int) x314 = spec_l06Put_l1_r N x1 x2 (x1.drop k) (k : Int) x314 := by
 intro d
 induction d with
 | zero =>
  intro k m x314 hd hm
  obtain ⟨m,rfl⟩ : ∃ q,m = q + 1 := ⟨m - 1,by omega⟩
  rw [spec_l06Put_l1,if_neg (by simp; omega),List.drop_eq_nil_of_le (by omega),spec_l06Put_l1_r]
 | succ d ih =>
  intro k m x314 hd hm
  obtain ⟨m,rfl⟩ : ∃ q,m = q + 1 := ⟨m - 1,by omega⟩
  have hk : k < x1.length := by omega
  rw [spec_l06Put_l1,if_pos (by simp; omega),List.drop_eq_getElem_cons hk,spec_l06Put_l1_r]
  have h1 := at_lt hk
  have h2 := w64_succ (k := k) (by omega)
  have h3 := ih (k + 1) m
  simp only [h1,h2,h3 _ (by omega) (by omega)]
theorem spec_l06Put_l1_eq {N : Nat} (x1 : (List Pair)) (x2 : ByteArray) (hx : x1.length ≤ 1099511627776) (hN : x1.length < N) (x314 : (List Pair)) : spec_l06Put_l1 N x1 x2 N 0 x314 = spec_l06Put_l1_r N x1 x2 x1 0 x314 := spec_l06Put_l1_rng N x1 x2 hx x1.length 0 N x314 (by omega) hN
def spec_l06Put_l2 (N : Nat) (x1 : (List Pair)) (x2 : ByteArray) : Nat → Int → (List Pair) → Option ((List Pair))
 | 0,_,_ => none
 | m + 1,x398,x399 =>
 (if (decide (x398 < (x1.length : Int))) = true then
 joinP (fun (v428 : (List Pair)) =>
 spec_l06Put_l2 N x1 x2 m (w64 (x398 + 1)) v428) fun j428 =>
 (at? x1 x398).bind fun x430 =>
 (if (!(Op.bytesLess x430.Key.toList x2.toList || decide (x430.Key = x2))) = true then
 (at? x1 x398).bind fun x434 =>
 (cat? x399 ([x434] : List Pair)).bind fun x435 =>
 j428 x435
 else
 j428 x399)
 else
 some x399)
def spec_l06Put_l2_r (N : Nat) (x1 : (List Pair)) (x2 : ByteArray) : (List Pair) → Int → (List Pair) → Option ((List Pair))
 | [],x398,x399 =>
 some x399
 | hd :: tl,x398,x399 =>
 joinP (fun (v428 : (List Pair)) =>
 spec_l06Put_l2_r N x1 x2 tl (w64 (x398 + 1)) v428) fun j428 =>
 (some hd).bind fun x430 =>
 (if (!(Op.bytesLess x430.Key.toList x2.toList || decide (x430.Key = x2))) = true then
 (some hd).bind fun x434 =>
 (cat? x399 ([x434] : List Pair)).bind fun x435 =>
 j428 x435
 else
 j428 x399)
theorem spec_l06Put_l2_rng (N : Nat) (x1 : (List Pair)) (x2 : ByteArray) (hx : x1.length ≤ 1099511627776) : ∀ (d k m : Nat) (x399 : (List Pair)),x1.length = k + d → d < m → spec_l06Put_l2 N x1 x2 m (k : Int) x399 = spec_l06Put_l2_r N x1 x2 (x1.drop k) (k : Int) x399 := by
 intro d
 induction d with
 | zero =>
  intro k m x399 hd hm
  obtain ⟨m,rfl⟩ : ∃ q,m = q + 1 := ⟨m - 1,by omega⟩
  rw [spec_l06Put_l2,if_neg (by simp; omega),List.drop_eq_nil_of_le (by omega),spec_l06Put_l2_r]
 | succ d ih =>
  intro k m x399 hd hm
  obtain ⟨m,rfl⟩ : ∃ q,m = q + 1 := ⟨m - 1,by omega⟩
  have hk : k < x1.length := by omega
  rw [spec_l06Put_l2,if_pos (by simp; omega),List.drop_eq_getElem_cons hk,spec_l06Put_l2_r]
  have h1 := at_lt hk
  have h2 := w64_succ (k := k) (by omega)
  have h3 := ih (k + 1) m
  simp only [h1,h2,h3 _ (by omega) (by omega)]
theorem spec_l06Put_l2_eq {N : Nat} (x1 : (List Pair)) (x2 : ByteArray) (hx : x1.length ≤ 1099511627776) (hN : x1.length < N) (x399 : (List Pair)) : spec_l06Put_l2 N x1 x2 N 0 x399 = spec_l06Put_l2_r N x1 x2 x1 0 x399 := spec_l06Put_l2_rng N x1 x2 hx x1.length 0 N x399 (by omega) hN
def spec_l06Put (N : Nat) (x1 : (List Pair)) (x2 : ByteArray) (x3 : ByteArray) : Option ((List Pair)) :=
 joinP (fun (v309 : (List Pair)) =>
 (cat? v309 ([(Pair.mk x2 x3)] : List Pair)).bind fun x354 =>
 joinP (fun (v395 : (List Pair)) =>
 some v395) fun j395 =>
 (spec_l06Put_l2 N x1 x2 N 0 x354).bind (fun v417 => j395 v417)) fun j309 =>
 (spec_l06Put_l1 N x1 x2 N 0 ([] : List Pair)).bind (fun v332 => j309 v332)
instance i107 (N : Nat) (x1 : (List Pair)) (x2 : ByteArray) (x3 : ByteArray) : Sem Tryz.prog 185 (spec_l06Put N x1 x2 x3) [RO 79 (x1.map encPair),VS x2,VS x3] 0 [] (fun r => .sl 0 79 0 r.length) (fun r => [(0,.vec 79 (r.map encPair))]) := .st e e Tryz.call185 fun B r => .st e (Ev.bsW (ys := ([] : List Pair)) (f := encPair) e .nil e e e e e) e (.j e (fun v309 => [(0,RO 79 (x1.map encPair)),(1,VS x2),(2,VS x3),(7,.sl 0 79 0 v309.length)]) (fun v309 => [(0,.vec 79 (v309.map encPair))]) (fun _ => .L2 e (fun x313 x314 => [(0,RO 79 (x1.map encPair)),(1,VS x2),(2,VS x3),(7,.sl 0 79 0 x314.length),(8,VI x313)]) (fun x313 x314 => [(0,.vec 79 (x314.map encPair))]) (.k [0,1,2,7,8] [5096]) fun _ x313 x314 _ hk332 => .q e (.st e (Ev.lnF e) e (.a e e (.j e (fun v343 => [(0,RO 79 (x1.map encPair)),(1,VS x2),(2,VS x3),(7,.sl 0 79 0 v343.length),(8,VI x313)]) (fun v343 => [(0,.vec 79 (v343.map encPair))]) (fun _ => .B fun _ hx345 => .st e (Ev.iaF e e hx345) e (.a e e (.B fun x349 hx349 => .st e (Ev.iaF e e hx349) e (.st e (Ev.bsW (ys := ([x349] : List Pair)) (f := encPair) e (.d2 .nil) e e e e e) e (.B fun _ hx350 => .st e (Ev.apW (f := encPair) (ontoW e e e) (addsW e e e (fun _ => e)) e bt79 e hx350) e (.J e (.k [0,1,2,7,8] [25672]))))) (.J e (.k [0,1,2,7,8] [0])))) fun v343 => .R e (fun h => ⟨_,_,h,e,e⟩) (.k [0,1,2,7,8] [0])) (.X hk332 e e (.n e (.J e (.k [0,1,2,7] [0]))))))) fun v309 => .st e (Ev.bsW (ys := ([(Pair.mk x2 x3)] : List Pair)) (f := encPair) e (.d2 .nil) e e e e e) e (.B fun _ hx354 => .st e (Ev.apW (f := encPair) (ontoW e e e) (addsW e e e (fun _ => e)) e bt79 e hx354) e (.j e (fun v395 => [(7,.sl 0 79 0 v395.length)]) (fun v395 => [(0,.vec 79 (v395.map encPair))]) (fun _ => .L2 e (fun x398 x399 => [(0,RO 79 (x1.map encPair)),(1,VS x2),(7,.sl 0 79 0 x399.length),(9,VI x398)]) (fun x398 x399 => [(0,.vec 79 (x399.map encPair))]) (.k [0,1,7,9] [29752]) fun _ x398 x399 _ hk417 => .q e (.st e (Ev.lnF e) e (.a e e (.j e (fun v428 => [(0,RO 79 (x1.map encPair)),(1,VS x2),(7,.sl 0 79 0 v428.length),(9,VI x398)]) (fun v428 => [(0,.vec 79 (v428.map encPair))]) (fun _ => .B fun _ hx430 => .st e (Ev.iaF e e hx430) e (.a e e (.B fun x434 hx434 => .st e (Ev.iaF e e hx434) e (.st e (Ev.bsW (ys := ([x434] : List Pair)) (f := encPair) e (.d2 .nil) e e e e e) e (.B fun _ hx435 => .st e (Ev.apW (f := encPair) (ontoW e e e) (addsW e e e (fun _ => e)) e bt79 e hx435) e (.J e (.k [0,1,7,9] [50248]))))) (.J e (.k [0,1,7,9] [0])))) fun v428 => .R e (fun h => ⟨_,_,h,e,e⟩) (.k [0,1,7,9] [0])) (.X hk417 e e (.n e (.J e (.k [7] [0]))))))) fun v395 => .Ek [0] e e e)))
def spec_l15Open_i1_l1 (N : Nat) (x3 : (List Tl15State)) : Nat → Int → Int → Option (Int)
 | 0,_,_ => none
 | m + 1,x405,x406 =>
 (if (decide (x406 < ((x3.length : Nat) : Int))) = true then
 joinP (fun (v430 : Int) =>
 spec_l15Open_i1_l1 N x3 m v430 (w64 (x406 + 1))) fun j430 =>
 (at? x3 x406).bind fun x433 =>
 (at? x3 x405).bind fun x434 =>
 (if (decide (x433.at' < x434.at')) = true then
 j430 x406
 else
 j430 x405)
 else
 some x405)
def spec_l15Open_i1 (N : Nat) (x1 : (List Pair)) (x2 : Int) (x3 : (List Tl15State)) : Option ((List Pair) × ByteArray × Bool) :=
 (spec_l15Next N x1).bind fun y286 =>
 (if (!y286.2) = true then
 some (x1,(⟨#[]⟩ : ByteArray),false)
 else
 joinP (fun (v365 : (List Pair)) =>
 (spec_l15Key N y286.1).bind fun y451 =>
 (spec_l15Text N (Tl15State.mk 0 0 x2 (⟨#[]⟩ : ByteArray))).bind fun y452 =>
 (spec_l06Put N v365 y451 y452).bind fun y453 =>
 (spec_Decimal N (w64 (y286.1 + 1))).bind fun y460 =>
 (spec_l06Put N y453 (⟨#[110]⟩ : ByteArray) y460).bind fun y461 =>
 (spec_Decimal N y286.1).bind fun y464 =>
 (scat? (⟨#[111,112,101,110,32]⟩ : ByteArray) y464).bind fun x465 =>
 some (y461,x465,true)) fun j365 =>
 (if (decide (((x3.length : Nat) : Int) ≥ 3)) = true then
 joinP (fun (v401 : Int) =>
 (at? x3 v401).bind fun x439 =>
 (spec_l15Key N x439.id).bind fun y440 =>
 (spec_l06Cut N x1 y440).bind fun y441 =>
 j365 y441) fun j401 =>
 (spec_l15Open_i1_l1 N x3 N 0 1).bind (fun v421 => j401 v421)
 else
 j365 x1))
instance i109 (N : Nat) (x1 : (List Pair)) (x2 : Int) (x3 : (List Tl15State)) : Sem Tryz.prog 183 (spec_l15Open_i1 N x1 x2 x3) [RO 79 (x1.map encPair),VI x2,.sl 0 285 0 x3.length] 1 [(0,.vec 285 (x3.map encTl15State))] (fun r => .tup [RO 79 (r.1.map encPair),VS r.2.1,VB r.2.2]) (fun r => [(0,.vec 285 (x3.map encTl15State))]) := .st e e Tryz.call183 fun B r => .c0 e i q fun y286 _ => .q e (.a e e (.E e e (.ro [0,1,2] [0] [] [] [0] [0])) (.j e (fun v365 => [(0,RO 79 (v365.map encPair)),(1,VI x2),(9,VI y286.1)]) (fun v365 => [(0,.vec 285 (x3.map encTl15State))]) (fun _ => .a e e (.j e (fun v401 => [(0,RO 79 (x1.map encPair)),(1,VI x2),(2,.sl 0 285 0 x3.length),(9,VI y286.1),(11,VI v401)]) (fun v401 => [(0,.vec 285 (x3.map encTl15State))]) (fun _ => .L2 e (fun x405 x406 => [(0,RO 79 (x1.map encPair)),(1,VI x2),(2,.sl 0 285 0 x3.length),(9,VI y286.1),(11,VI x405),(12,VI x406)]) (fun x405 x406 => [(0,.vec 285 (x3.map encTl15State))]) (.k [0,1,2,9,11,12] [0]) fun _ x405 x406 _ hk421 => .q e (.a e e (.j e (fun v430 => [(0,RO 79 (x1.map encPair)),(1,VI x2),(2,.sl 0 285 0 x3.length),(9,VI y286.1),(11,VI v430),(12,VI x406)]) (fun v430 => [(0,.vec 285 (x3.map encTl15State))]) (fun _ => .B fun _ hx433 => .st e (Ev.iaW e e e hx433) e (.st e (Ev.ldE (f := encTl15State) e e (at_some hx433).2 e e e) e (.B fun _ hx434 => .st e (Ev.iaW e e e hx434) e (.st e (Ev.ldE (f := encTl15State) e e (at_some hx434).2 e e e) e (.dn e (.a e e (.J e (.k [0,1,2,9,11,12] [0])) (.J e (.k [0,1,2,9,11,12] [0])))))))) fun v430 => .R e (fun h => ⟨_,_,h,e,e⟩) (.k [0,1,2,9,11,12] [0])) (.X hk421 e e (.n e (.J e (.k [0,1,2,9,11] [0])))))) fun v401 => .B fun _ hx439 => .st e (Ev.iaW e e e hx439) e (.st e (Ev.ldE (f := encTl15State) e e (at_some hx439).2 e e e) e (.c0 e i q fun _ _ => .c1 e i q fun y441 _ => .J e (.t (Gh.frz (f := encPair) (g := encPair) (xs := y441) 46168 (fun _ => e) e) (.ro [0,1,9] [0,46168] [] [46168] [0] [0]))))) (.J e (.ro [0,1,9] [0] [] [] [0] [0]))) fun v365 => .c0 e i q fun _ _ => .c0 e i q fun _ _ => .c1 e i q fun _ _ => .c0 e i q fun _ _ => .f (hp := (.cons (.borrow e (by decide) (lendW (fun _ => e) _ e)) (.d2 .nil))) (hcase := fun _ => (.inr ⟨rfl,ownL_root ⟨own_rows (fun _ => e) _,trivial⟩⟩)) [] [50248] 1 e i q fun y461 _ => .c0 e i q fun _ _ => .B fun _ hx465 => .st e (Ev.addS e e hx465) e (.E e e (.t (Gh.frz (f := encPair) (g := encPair) (xs := y461) 54312 (fun _ => e) e) (.ro [0,1,2] [0,54312] [] [54312] [0] [0])))))
def spec_l15Op_i1 (N : Nat) (x1 : (List Pair)) (x2 : Command) : Option ((List Pair) × ByteArray) :=
 (scat? (⟨#[107]⟩ : ByteArray) x2.Key).bind fun x153 =>
 (spec_l06At N x1 x153).bind fun y157 =>
 (spec_l06Get N x1 x153).bind fun y161 =>
 (if (x2.Op == 2) = true then
 (if (decide (y157 ≥ 0)) = true then
 (scat? (⟨#[103,111,116,32]⟩ : ByteArray) y161).bind fun x185 =>
 some (x1,x185)
 else
 some (x1,(⟨#[110,111,110,101]⟩ : ByteArray)))
 else
 (if (x2.Op == 3) = true then
 (spec_l06Put N x1 x153 x2.Value).bind fun y188 =>
 some (y188,(⟨#[112,117,116]⟩ : ByteArray))
 else
 (if (x2.Op == 4) = true then
 (if (decide (y157 ≥ 0)) = true then
 (spec_l06Cut N x1 x153).bind fun y195 =>
 some (y195,(⟨#[99,117,116]⟩ : ByteArray))
 else
 some (x1,(⟨#[110,111,110,101]⟩ : ByteArray)))
 else
 (if (!decide (y161 = x2.Old)) = true then
 some (x1,(⟨#[107,101,112,116]⟩ : ByteArray))
 else
 (spec_l06Put N x1 x153 x2.Value).bind fun y199 =>
 some (y199,(⟨#[115,119,97,112,112,101,100]⟩ : ByteArray))))))
instance i111 (N : Nat) (x1 : (List Pair)) (x2 : Command) : Sem Tryz.prog 184 (spec_l15Op_i1 N x1 x2) [.sl 0 79 0 x1.length,.agg [VI x2.Op,VI x2.Session,VI x2.Seq,VS x2.Key,VS x2.Value,VS x2.Old]] 1 [(0,.vec 79 (x1.map encPair))] (fun r => .tup [.sl 1 79 0 r.1.length,VS r.2]) (fun r => [(0,.gone),(1,.vec 79 (r.1.map encPair))]) := .st e e Tryz.call184 fun B r => .B fun _ hx153 => .st e (Ev.addS e e hx153) e (.f (hp := (.cons (.borrow e (by decide) (lendW (fun _ => e) _ e)) (.d1 .nil))) (hcase := fun _ => (.inr ⟨rfl,ownL_root trivial⟩)) [] [0] 0 e i q fun _ _ => .f (hp := (.cons (.borrow e (by decide) (lendW (fun _ => e) _ e)) (.d1 .nil))) (hcase := fun _ => (.inr ⟨rfl,ownL_root trivial⟩)) [] [0] 0 e i q fun _ _ => .q e (.a e e (.q e (.a e e (.B fun _ hx185 => .st e (Ev.addS e e hx185) e (.E e e (.mv [0,1] [0] [0] [0,30000000]))) (.E e e (.mv [0,1] [0] [0] [0,30000000])))) (.a e e (.f (hp := (.cons (.borrow e (by decide) (lendW (fun _ => e) _ e)) (.d2 .nil))) (hcase := fun _ => (.inr ⟨rfl,ownL_root ⟨own_rows (fun _ => e) _,trivial⟩⟩)) [] [0] 1 e i q fun _ _ => .E e e (.mv [0,1] [0,42024] [0] [0,42024])) (.a e e (.q e (.a e e (.f (hp := (.cons (.borrow e (by decide) (lendW (fun _ => e) _ e)) (.d1 .nil))) (hcase := fun _ => (.inr ⟨rfl,ownL_root ⟨own_rows (fun _ => e) _,trivial⟩⟩)) [] [0] 1 e i q fun _ _ => .E e e (.mv [0,1] [0,54280] [0] [0,54280])) (.E e e (.mv [0,1] [0] [0] [0,30000000])))) (.q e (.a e e (.E e e (.mv [0,1] [0] [0] [0,30000000])) (.f (hp := (.cons (.borrow e (by decide) (lendW (fun _ => e) _ e)) (.d2 .nil))) (hcase := fun _ => (.inr ⟨rfl,ownL_root ⟨own_rows (fun _ => e) _,trivial⟩⟩)) [] [0] 1 e i q fun _ _ => .E e e (.mv [0,1] [0,70696] [0] [0,70696]))))))))
def spec_Act_l1 (N : Nat) (x3 : Command) (y286 : (List Tl15State) × Bool) : Nat → Int → Int → Option (Int)
 | 0,_,_ => none
 | m + 1,x357,x358 =>
 (if (decide (x358 < ((y286.1.length : Nat) : Int))) = true then
 joinP (fun (v384 : Int) =>
 spec_Act_l1 N x3 y286 m v384 (w64 (x358 + 1))) fun j384 =>
 (at? y286.1 x358).bind fun x386 =>
 (if (x386.id == x3.Session) = true then
 j384 x358
 else
 j384 x357)
 else
 some x357)
def spec_Act (N : Nat) (x1 : (List Pair)) (x2 : Int) (x3 : Command) : Option ((List Pair) × ByteArray × Bool) :=
 (spec_MapOk N x1).bind fun y277 =>
 (if (!y277) = true then
 some (([] : List Pair),(⟨#[]⟩ : ByteArray),false)
 else
 (spec_CommandOk N x3).bind fun y279 =>
 (if (!y279) = true then
 some (([] : List Pair),(⟨#[]⟩ : ByteArray),false)
 else
 (spec_l01In N x2 0 100000).bind fun y281 =>
 (if (!y281) = true then
 some (([] : List Pair),(⟨#[]⟩ : ByteArray),false)
 else
 (spec_l15Sessions N x1).bind fun y286 =>
 (if (!y286.2) = true then
 some (([] : List Pair),(⟨#[]⟩ : ByteArray),false)
 else
 (cat? ([] : List Pair) x1).bind fun x292 =>
 (if (x3.Op == 1) = true then
 (spec_l15Open_i1 N x292 x2 y286.1).bind fun y312 =>
 (if (!y312.2.2) = true then
 some (([] : List Pair),(⟨#[]⟩ : ByteArray),false)
 else
 (spec_MapOk N y312.1).bind fun y321 =>
 (if (!y321) = true then
 some (([] : List Pair),(⟨#[]⟩ : ByteArray),false)
 else
 some (y312.1,y312.2.1,true)))
 else
 joinP (fun (v355 : Int) =>
 (if (decide (v355 < 0)) = true then
 some (x292,(⟨#[101,120,112,105,114,101,100]⟩ : ByteArray),true)
 else
 (at? y286.1 v355).bind fun x393 =>
 (if (decide (x3.Seq < x393.seq)) = true then
 some (x292,(⟨#[115,116,97,108,101]⟩ : ByteArray),true)
 else
 (if (x3.Seq == x393.seq) = true then
 some (x292,x393.reply,true)
 else
 (if (decide (x3.Seq > (w64 (x393.seq + 1)))) = true then
 some (x292,(⟨#[103,97,112]⟩ : ByteArray),true)
 else
 (spec_l15Op_i1 N x292 x3).bind fun y403 =>
 (spec_l15Key N x393.id).bind fun y413 =>
 (spec_l15Text N (Tl15State.mk x393.id x3.Seq x2 y403.2)).bind fun y414 =>
 (spec_l06Put N y403.1 y413 y414).bind fun y415 =>
 (spec_MapOk N y415).bind fun y420 =>
 (if (!y420) = true then
 some (([] : List Pair),(⟨#[]⟩ : ByteArray),false)
 else
 some (y415,y403.2,true))))))) fun j355 =>
 (spec_Act_l1 N x3 y286 N (-1 : Int) 0).bind (fun v377 => j355 v377))))))
instance i112 (N : Nat) (x1 : (List Pair)) (x2 : Int) (x3 : Command) : Sem Tryz.prog 116 (spec_Act N x1 x2 x3) [RO 79 (x1.map encPair),VI x2,.agg [VI x3.Op,VI x3.Session,VI x3.Seq,VS x3.Key,VS x3.Value,VS x3.Old]] 0 [] (fun r => .tup [RO 79 (r.1.map encPair),VS r.2.1,VB r.2.2]) (fun r => []) := .st e e Tryz.call116 fun B r => .st e (Ev.bsW (ys := ([] : List Pair)) (f := encPair) e .nil e e e e e) e (.q e (.q e (.c0 e i q fun _ _ => .a e e (.E e e (.t (Gh.frz (f := encPair) (g := encPair) (xs := ([] : List Pair)) 5096 (fun _ => e) e) (.ro [0,1,2] [5096] [] [5096] [0] []))) (.c0 e i q fun _ _ => .a e e (.E e e (.t (Gh.frz (f := encPair) (g := encPair) (xs := ([] : List Pair)) 5096 (fun _ => e) e) (.ro [0,1,2] [5096] [] [5096] [0] []))) (.c0 e i q fun _ _ => .a e e (.E e e (.t (Gh.frz (f := encPair) (g := encPair) (xs := ([] : List Pair)) 5096 (fun _ => e) e) (.ro [0,1,2] [5096] [] [5096] [0] []))) (.c1 e i q fun y286 _ => .q e (.a e e (.E e e (.t (Gh.frz (f := encPair) (g := encPair) (xs := ([] : List Pair)) 5096 (fun _ => e) e) (.ro [0,1,2] [5096] [] [5096] [0] []))) (.st e (Ev.bsW (ys := ([] : List Pair)) (f := encPair) e .nil e e e e e) e (.B fun x292 hx292 => .st e (Ev.apW (f := encPair) (ontoW e e e) (addsF e) e bt79 e hx292) e (.q e (.a e e (.B fun _ hy312 => .stz e (EvZ.frz (f := encPair) (g := encPair) (xs := x292) 29704 (fun _ => e) e (.mk (Ev.call [17400] [] 0 (sy hy312) e e (.cons (.share e (shareW _ e)) (.d1 (.cons (.sl e) .nil))) e (.inl e) e e))) e (.q e (.q e (.a e e (.E e e (.t (Gh.frz (f := encPair) (g := encPair) (xs := ([] : List Pair)) 5096 (fun _ => e) e) (.ro [0,1,2] [5096] [] [5096] [0] []))) (.c0 e i q fun _ _ => .a e e (.E e e (.t (Gh.frz (f := encPair) (g := encPair) (xs := ([] : List Pair)) 5096 (fun _ => e) e) (.ro [0,1,2] [5096] [] [5096] [0] []))) (.E e e (.ro [0,1,2] [] [] [] [0] []))))))) (.j e (fun v355 => [(1,VI x2),(5,.ptr 0 0),(9,.sl 1 79 0 (([] : List Pair).length)),(10,.sl 2 285 0 y286.1.length),(12,.sl 3 79 0 x292.length),(14,VI v355)]) (fun v355 => [(0,.box [VI x3.Op,VI x3.Session,VI x3.Seq,VS x3.Key,VS x3.Value,VS x3.Old]),(1,.vec 79 (([] : List Pair).map encPair)),(2,.vec 285 (y286.1.map encTl15State)),(3,.vec 79 (x292.map encPair))]) (fun _ => .L2 e (fun x357 x358 => [(1,VI x2),(5,.ptr 0 0),(9,.sl 1 79 0 (([] : List Pair).length)),(10,.sl 2 285 0 y286.1.length),(12,.sl 3 79 0 x292.length),(14,VI x357),(15,VI x358)]) (fun x357 x358 => [(0,.box [VI x3.Op,VI x3.Session,VI x3.Seq,VS x3.Key,VS x3.Value,VS x3.Old]),(1,.vec 79 (([] : List Pair).map encPair)),(2,.vec 285 (y286.1.map encTl15State)),(3,.vec 79 (x292.map encPair))]) (.k [1,5,9,10,12,14,15] [1000,5096,17400,29704]) fun _ x357 x358 _ hk377 => .q e (.a e e (.j e (fun v384 => [(1,VI x2),(5,.ptr 0 0),(9,.sl 1 79 0 (([] : List Pair).length)),(10,.sl 2 285 0 y286.1.length),(12,.sl 3 79 0 x292.length),(14,VI v384),(15,VI x358)]) (fun v384 => [(0,.box [VI x3.Op,VI x3.Session,VI x3.Seq,VS x3.Key,VS x3.Value,VS x3.Old]),(1,.vec 79 (([] : List Pair).map encPair)),(2,.vec 285 (y286.1.map encTl15State)),(3,.vec 79 (x292.map encPair))]) (fun _ => .B fun _ hx386 => .st e (Ev.iaW e e e hx386) e (.st e (Ev.ldE (f := encTl15State) e e (at_some hx386).2 e e e) e (.dn e (.a e e (.J e (.k [1,5,9,10,12,14,15] [0,1,2,3])) (.J e (.k [1,5,9,10,12,14,15] [0,1,2,3])))))) fun v384 => .R e (fun h => ⟨_,_,h,e,e⟩) (.k [1,5,9,10,12,14,15] [0,1,2,3])) (.X hk377 e e (.n e (.J e (.k [1,5,9,10,12,14] [0,1,2,3])))))) fun v355 => .q e (.a e e (.E e e (.t (Gh.frz (f := encPair) (g := encPair) (xs := x292) 3 (fun _ => e) e) (.ro [0,1,2] [3] [] [3] [0] []))) (.B fun _ hx393 => .st e (Ev.iaW e e e hx393) e (.st e (Ev.ldE (f := encTl15State) e e (at_some hx393).2 e e e) e (.q e (.a e e (.E e e (.t (Gh.frz (f := encPair) (g := encPair) (xs := x292) 3 (fun _ => e) e) (.ro [0,1,2] [3] [] [3] [0] []))) (.q e (.a e e (.dn e (.E e e (.t (Gh.frz (f := encPair) (g := encPair) (xs := x292) 3 (fun _ => e) e) (.ro [0,1,2] [3] [] [3] [0] [])))) (.q e (.a e e (.E e e (.t (Gh.frz (f := encPair) (g := encPair) (xs := x292) 3 (fun _ => e) e) (.ro [0,1,2] [3] [] [3] [0] []))) (.f [3] [] 1 e i q fun _ _ => .c0 e i q fun _ _ => .c0 e i q fun _ _ => .f (hp := (.cons (.borrow e (by decide) (lendW (fun _ => e) _ e)) (.d2 .nil))) (hcase := fun _ => (.inr ⟨rfl,ownL_root ⟨own_rows (fun _ => e) _,trivial⟩⟩)) [] [119816] 1 e i q fun y415 _ => .dn e (.q e (.f (hp := (.cons (.borrow e (by decide) (lendW (fun _ => e) _ e)) .nil)) (hcase := fun _ => (.inr ⟨rfl,ownL_root trivial⟩)) [] [136264] 0 e i q fun _ _ => .a e e (.E e e (.t (Gh.frz (f := encPair) (g := encPair) (xs := ([] : List Pair)) 1 (fun _ => e) e) (.ro [0,1,2] [1] [] [1] [0] []))) (.E e e (.t (Gh.frz (f := encPair) (g := encPair) (xs := y415) 136264 (fun _ => e) e) (.ro [0,1,2] [136264] [] [136264] [0] [])))))))))))))))))))))))))))
def spec_l17Acted (N : Nat) (x1 : (List Pair)) (x2 : Int) (x3 : Entry) : Option ((List Pair) × ByteArray) :=
 (spec_ReadCommand N x3.Data).bind fun y119 =>
 (if (x3.Kind != 3) = true then
 some (x1,(⟨#[]⟩ : ByteArray))
 else
 (if (!y119.2) = true then
 some (x1,(⟨#[]⟩ : ByteArray))
 else
 (spec_Act N x1 x2 y119.1).bind fun y129 =>
 (if (!y129.2.2) = true then
 some (x1,(⟨#[]⟩ : ByteArray))
 else
 some (y129.1,y129.2.1))))
instance i113 (N : Nat) (x1 : (List Pair)) (x2 : Int) (x3 : Entry) : Sem Tryz.prog 63 (spec_l17Acted N x1 x2 x3) [RO 79 (x1.map encPair),VI x2,.agg [VI x3.Term,VI x3.Kind,VS x3.Data]] 0 [] (fun r => .tup [RO 79 (r.1.map encPair),VS r.2]) (fun r => []) := .st e e Tryz.call63 fun B r => .c0 e i q fun _ _ => .q e (.q e (.a e e (.Ek [] e e e) (.a e e (.Ek [] e e e) (.c0 e i q fun _ _ => .q e (.a e e (.Ek [] e e e) (.Ek [] e e e))))))
def spec_Fold_l2 (N : Nat) (x1 : (List Applied)) (x1374 : Int) : Nat → Int → Int → Option (Int)
 | 0,_,_ => none
 | m + 1,x1592,x1593 =>
 (if (decide (x1593 ≥ 0)) = true then
 joinP (fun (v1610 : Int) =>
 spec_Fold_l2 N x1 x1374 m v1610 (w64 (x1593 - 1))) fun j1610 =>
 (at? x1 x1593).bind fun x1612 =>
 (if (x1612.Index == x1374) = true then
 j1610 x1593
 else
 j1610 x1592)
 else
 some x1592)
def spec_Fold_l1 (N : Nat) (x1 : (List Applied)) (x2 : Int) : Nat → (List Pair) → Int → Option (((List Pair) × Bool) ⊕ ((List Pair)))
 | 0,_,_ => none
 | m + 1,x1373,x1374 =>
 (if (decide (x1374 ≤ x2)) = true then
 joinP (fun (v1560 : (List Pair)) =>
 spec_Fold_l1 N x1 x2 m v1560 (w64 (x1374 + 1))) fun j1560 =>
 joinP (fun (v1587 : Int) =>
 (if (decide (v1587 < 0)) = true then
 some (Sum.inl (([] : List Pair),false))
 else
 (at? x1 v1587).bind fun x1618 =>
 (spec_l17Acted N x1373 x1374 x1618.Entry).bind fun y1619 =>
 j1560 y1619.1)) fun j1587 =>
 (spec_Fold_l2 N x1 x1374 N (-1 : Int) (w64 ((x1.length : Int) - 1))).bind (fun v1603 => j1587 v1603)
 else
 some (Sum.inr x1373))
def spec_Fold (N : Nat) (x1 : (List Applied)) (x2 : Int) : Option ((List Pair) × Bool) :=
 (spec_l01In N x2 0 100000).bind fun y868 =>
 (if (!y868) = true then
 some (([] : List Pair),false)
 else
 (if (decide ((x1.length : Int) > 400)) = true then
 some (([] : List Pair),false)
 else
 joinP (fun (v1245 : (List Pair)) =>
 (cat? ([] : List Pair) v1245).bind fun x1621 =>
 some (x1621,true)) fun j1245 =>
 (spec_Fold_l1 N x1 x2 N ([] : List Pair) 1).bind (Sum.elim (fun v1496 => some v1496) (fun (v1497 : (List Pair)) => j1245 v1497))))
instance i115 (N : Nat) (x1 : (List Applied)) (x2 : Int) : Sem Tryz.prog 22 (spec_Fold N x1 x2) [RO 102 (x1.map encApplied),VI x2] 0 [] (fun r => .tup [.sl 0 79 0 r.1.length,VB r.2]) (fun r => [(0,.vec 79 (r.1.map encPair))]) := .st e e Tryz.call22 fun B r => .st e (Ev.bsW (ys := ([] : List Pair)) (f := encPair) e .nil e e e e e) e (.q e (.q e (.c0 e i q fun _ _ => .a e e (.Ek [5096] e e e) (.st e (Ev.lnF e) e (.a e e (.Ek [5096] e e e) (.j e (fun v1245 => [(6,RO 79 (v1245.map encPair))]) (fun v1245 => []) (fun _ => .L2 e (fun x1373 x1374 => [(0,RO 102 (x1.map encApplied)),(1,VI x2),(6,RO 79 (x1373.map encPair)),(7,VI x1374)]) (fun x1373 x1374 => []) (.t (Gh.frz (f := encPair) (g := encPair) (xs := ([] : List Pair)) 5096 (fun _ => e) e) (.ro [0,1,6,7] [5096] [] [5096] [6] [])) fun _ x1373 x1374 _ hk1497 => .q e (.a e e (.j e (fun v1560 => [(0,RO 102 (x1.map encApplied)),(1,VI x2),(6,RO 79 (v1560.map encPair)),(7,VI x1374)]) (fun v1560 => []) (fun _ => .j e (fun v1587 => [(0,RO 102 (x1.map encApplied)),(1,VI x2),(6,RO 79 (x1373.map encPair)),(7,VI x1374),(8,VI v1587)]) (fun v1587 => []) (fun _ => .st e (Ev.lnF e) e (.L2 e (fun x1592 x1593 => [(0,RO 102 (x1.map encApplied)),(1,VI x2),(6,RO 79 (x1373.map encPair)),(7,VI x1374),(8,VI x1592),(9,VI x1593)]) (fun x1592 x1593 => []) (.k [0,1,6,7,8,9] []) fun _ x1592 x1593 _ hk1603 => .q e (.a e e (.j e (fun v1610 => [(0,RO 102 (x1.map encApplied)),(1,VI x2),(6,RO 79 (x1373.map encPair)),(7,VI x1374),(8,VI v1610),(9,VI x1593)]) (fun v1610 => []) (fun _ => .B fun _ hx1612 => .st e (Ev.iaF e e hx1612) e (.a e e (.J e (.k [0,1,6,7,8,9] [])) (.J e (.k [0,1,6,7,8,9] [])))) fun v1610 => .R e (fun h => ⟨_,_,h,e,e⟩) (.k [0,1,6,7,8,9] [])) (.X hk1603 e e (.n e (.J e (.k [0,1,6,7,8] []))))))) fun v1587 => .q e (.a e e (.st e (Ev.bsW (ys := ([] : List Pair)) (f := encPair) e .nil e e e e e) e (.Xr hk1497 e e (.il (.e e (.Ek [58344] e e e))))) (.B fun _ hx1618 => .st e (Ev.iaF e e hx1618) e (.c0 e i q fun _ _ => .J e (.k [0,1,6,7] []))))) fun v1560 => .R e (fun h => ⟨_,_,h,e,e⟩) (.ro [0,1,6,7] [] [] [] [6] [])) (.X hk1497 e e (.ir (.n e (.J e (.k [6] []))))))) fun v1245 => .st e (Ev.bsW (ys := ([] : List Pair)) (f := encPair) e .nil e e e e e) e (.B fun _ hx1621 => .st e (Ev.apW (f := encPair) (ontoW e e e) (addsF e) e bt79 e hx1621) e (.Ek [66568] e e e))))))))
def spec_Folded_l1 (N : Nat) (y214 : (List Pair) × Bool) (y218 : (List Pair) × Bool) : Nat → Int → Option ((Bool) ⊕ (Unit))
 | 0,_ => none
 | m + 1,x260 =>
 (if (decide (x260 < ((y214.1.length : Nat) : Int))) = true then
 (at? y214.1 x260).bind fun x287 =>
 (at? y218.1 x260).bind fun x288 =>
 (if ((decide (x287.Key = x288.Key) && (decide (x287.Value = x288.Value) && true)) ^^ true) = true then
 some (Sum.inl false)
 else
 spec_Folded_l1 N y214 y218 m (w64 (x260 + 1)))
 else
 some (Sum.inr ()))
def spec_Folded (N : Nat) (x1 : World) (x2 : Int) : Option (Bool) :=
 (spec_l01In N x2 1 (x1.Servers.length : Int)).bind fun y199 =>
 (if (!y199) = true then
 some false
 else
 (at? x1.Servers (w64 (x2 - 1))).bind fun x204 =>
 (spec_OpenShelf N x204.Disk).bind fun y208 =>
 (if (y208.2.2 != 0) = true then
 some false
 else
 (spec_ShelfMap N x204.Disk y208.1).bind fun y214 =>
 (spec_Fold N x1.Applied y208.1.Stamp).bind fun y218 =>
 (if (!y214.2) = true then
 some false
 else
 (if (!y218.2) = true then
 some false
 else
 (if (((y214.1.length : Nat) : Int) != ((y218.1.length : Nat) : Int)) = true then
 some false
 else
 joinP (fun (v259 : Unit) =>
 some true) fun j259 =>
 (spec_Folded_l1 N y214 y218 N 0).bind (Sum.elim (fun v275 => some v275) (fun (v276 : Unit) => j259 ())))))))
instance i116 (N : Nat) (x1 : World) (x2 : Int) : Sem Tryz.prog 6 (spec_Folded N x1 x2) [.agg [RO 4 (x1.Up.map encB),RO 70 (x1.Servers.map (encServer false)),RO 153 (x1.Net.map (encMessage false)),RO 156 (x1.Waits.map encWait),RO 160 (x1.Leaders.map (encLeader false)),RO 102 (x1.Applied.map encApplied),RO 165 (x1.Replies.map encReply)],VI x2] 0 [] (fun r => VB r) (fun r => []) := .so s6 e Tryz.call6 fun B r => .q e (.st e (Ev.lnF e) e (.c0 e i q fun _ _ => .a e e (.Ek [] e e e) (.B fun _ hx204 => .st e (Ev.iaF e e hx204) e (.f [] [] 4 e i q fun _ _ => .q e (.a e e (.Ek [] e e e) (.f (hp := (.cons (.agg (.d1 .nil)) (.cons (.agg (.cons (.borrow e (by decide) (lendW (fun _ => e) _ e)) (.d2 (.d1 (.cons (.borrow e (by decide) (lendW (fun _ => e) _ e)) (.cons (.borrow e (by decide) (lendW (fun _ => e) _ e)) (.d1 .nil))))))) .nil))) (hcase := fun _ => (.inr ⟨rfl,ownL_root ⟨own_rows (fun _ => e) _,trivial⟩⟩)) [] [17400,17401,17402] 1 e i q fun y214 _ => .c1 e i q fun y218 _ => .q e (.q e (.a e e (.Ek [] e e e) (.a e e (.Ek [] e e e) (.a e e (.Ek [] e e e) (.j e (fun _ => []) (fun _ => []) (fun _ => .L1 e (fun x260 => [(9,.sl 0 79 0 y214.1.length),(11,.sl 1 79 0 y218.1.length),(13,VI x260)]) (fun x260 => [(0,.vec 79 (y214.1.map encPair)),(1,.vec 79 (y218.1.map encPair))]) (.k [9,11,13] [29704,33832]) fun _ x260 _ hk276 => .q e (.a e e (.q e (.B fun _ hx287 => .st e (Ev.iaW e e e hx287) e (.st e (Ev.ldE (f := encPair) e e (at_some hx287).2 e e e) e (.B fun _ hx288 => .st e (Ev.iaW e e e hx288) e (.st e (Ev.ldE (f := encPair) e e (at_some hx288).2 e e e) e (.dn e (.a e e (.Xr hk276 e e (.il (.e e (.Ek [] e e e)))) (.R e (fun h => ⟨_,h,e,e⟩) (.k [9,11,13] [0,1]))))))))) (.X hk276 e e (.ir (.n e (.J e (.k [] []))))))) fun _ => .Ek [] e e e)))))))))))
end Go.Proofs.YthfjkhlgkjgkjaaGreatDoor.Pe.FnExactFolded
