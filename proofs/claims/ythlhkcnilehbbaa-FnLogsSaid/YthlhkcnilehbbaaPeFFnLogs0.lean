/- Functions,as pure functions; and that Go does just that. -/
import Derived.Test.YthlhkcnilehbbaaPeTy
import Derived.Test.YthlhkcnilehbbaaPeNorm
import Derived.Test.YthlhkcnilehbbaaPeSFnLogs
namespace Go.Proofs.Ythlhkcnilehbbaa.Pe.FnLogs
open Go Go.RowKit
set_option linter.unusedVariables false
set_option linter.unusedSimpArgs false
set_option maxHeartbeats 40000000
set_option maxRecDepth 100000
theorem hmix : Try.prog.follows .mixedOrders = true := by kernel_rfl
structure Tl01Cur where
 b : (List Int)
 i : Int
 h : Int
abbrev encTl01Cur (o : Bool) (x : Tl01Cur) : List C := [.row o 5 (x.b.map encU),.i .i64 x.i,.i .i64 x.h]
theorem ro_encTl01Cur (x : Tl01Cur) : roCs (encTl01Cur true x) = encTl01Cur false x := by simp only [encTl01Cur,roCs,roC,roRows_mapf (fun _ => rfl)]
theorem ro2_encTl01Cur (x : Tl01Cur) : roCs (encTl01Cur false x) = encTl01Cur false x := by simp only [encTl01Cur,roCs,roC,roRows_mapf (fun _ => rfl)]
theorem own_encTl01Cur (x : Tl01Cur) : ownCs (encTl01Cur true x) = true := by simp only [encTl01Cur,ownCs,ownC,Bool.and_self,Bool.and_true,Bool.true_and,own_rows (f := encU) (fun _ => rfl)]
structure Entry where
 Term : Int
 Kind : Int
 Data : ByteArray
abbrev encEntry (x : Entry) : List C := [.i .i64 x.Term,.i .i64 x.Kind,.s x.Data]
structure Command where
 Op : Int
 Session : Int
 Seq : Int
 Key : ByteArray
 Value : ByteArray
 Old : ByteArray
abbrev encCommand (x : Command) : List C := [.i .i64 x.Op,.i .i64 x.Session,.i .i64 x.Seq,.s x.Key,.s x.Value,.s x.Old]
structure Log where
 Start : Int
 StartTerm : Int
 Entries : (List Entry)
abbrev encLog (o : Bool) (x : Log) : List C := [.i .i64 x.Start,.i .i64 x.StartTerm,.row o 51 (x.Entries.map encEntry)]
theorem ro_encLog (x : Log) : roCs (encLog true x) = encLog false x := by simp only [encLog,roCs,roC,roRows_mapf (fun _ => rfl)]
theorem ro2_encLog (x : Log) : roCs (encLog false x) = encLog false x := by simp only [encLog,roCs,roC,roRows_mapf (fun _ => rfl)]
theorem own_encLog (x : Log) : ownCs (encLog true x) = true := by simp only [encLog,ownCs,ownC,Bool.and_self,Bool.and_true,Bool.true_and,own_rows (f := encEntry) (fun _ => rfl)]
structure Treader where
 s : ByteArray
 at' : Int
 bad : Bool
abbrev encTreader (x : Treader) : List C := [.s x.s,.i .i64 x.at',.b x.bad]
structure Raw where
 Kind : Int
 Name : ByteArray
 To : ByteArray
 Text : ByteArray
abbrev encRaw (x : Raw) : List C := [.i .i64 x.Kind,.s x.Name,.s x.To,.s x.Text]
structure Tl05Cur where
 text : ByteArray
 at' : Int
 bad : Bool
abbrev encTl05Cur (x : Tl05Cur) : List C := [.s x.text,.i .i64 x.at',.b x.bad]
structure File where
 Name : ByteArray
 Text : ByteArray
abbrev encFile (x : File) : List C := [.s x.Name,.s x.Text]
structure Disk where
 Files : (List File)
abbrev encDisk (o : Bool) (x : Disk) : List C := [.row o 38 (x.Files.map encFile)]
theorem ro_encDisk (x : Disk) : roCs (encDisk true x) = encDisk false x := by simp only [encDisk,roCs,roC,roRows_mapf (fun _ => rfl)]
theorem ro2_encDisk (x : Disk) : roCs (encDisk false x) = encDisk false x := by simp only [encDisk,roCs,roC,roRows_mapf (fun _ => rfl)]
theorem own_encDisk (x : Disk) : ownCs (encDisk true x) = true := by simp only [encDisk,ownCs,ownC,Bool.and_self,Bool.and_true,Bool.true_and,own_rows (f := encFile) (fun _ => rfl)]
theorem bt3 : bytesOf Try.prog 3 ≤ 2048 := of_decide_eq_true (by kernel_rfl)
theorem bt5 : bytesOf Try.prog 5 ≤ 2048 := of_decide_eq_true (by kernel_rfl)
theorem bt9 : bytesOf Try.prog 9 ≤ 2048 := of_decide_eq_true (by kernel_rfl)
theorem bt38 : bytesOf Try.prog 38 ≤ 2048 := of_decide_eq_true (by kernel_rfl)
theorem bt51 : bytesOf Try.prog 51 ≤ 2048 := of_decide_eq_true (by kernel_rfl)
theorem bt70 : bytesOf Try.prog 70 ≤ 2048 := of_decide_eq_true (by kernel_rfl)
def laws_big (N : Nat) (x1 : (List Int)) : Option (Bool) :=
 some (decide ((x1.length : Int) > 1048576))
theorem sem_laws_big (N : Nat) (x1 : (List Int)) (r : Bool) (h : laws_big N x1 = some r) : Says Try.prog 4 [RO 5 (x1.map encU)] 0 [] (VB r) [] := by
 unfold laws_big at h
 refine Says.of_norm e Try.call4 e fun B hB => ?_
 have hm : B.m ≤ 1000 := by omega
 refine Run.so hm (.p e (.nil (.so hm (.p e (.z 5112 (Ev.lnF e) e e (.p2 e e (.nil (.ret ?_))))))))
 obtain rfl := someO h
 exact Ends.mkG (.inl e) e (gh_pk [0] [] hB e e e e) e e
def spec_l01New_l1 (N : Nat) (x1 : (List Int)) : Nat → Int → Int → Option (Int)
 | 0,_,_ => none
 | m + 1,x202,x203 =>
 (if (decide (x203 < (x1.length : Int))) = true then
 (if (decide (x203 < 4000)) = true then
 (at? x1 x203).bind fun x232 =>
 (intD .and .i64 (w64 ((w64 ((w64 (x202 * 131)) + (w64 (x232)))) + 7)) 1073741823).bind fun x233 =>
 spec_l01New_l1 N x1 m x233 (w64 (x203 + 1))
 else
 some x202)
 else
 some x202)
def spec_l01New_l1_r (N : Nat) (x1 : (List Int)) : (List Int) → Int → Int → Option (Int)
 | [],x202,x203 =>
 some x202
 | hd :: tl,x202,x203 =>
 (if (decide (x203 < 4000)) = true then
 (some hd).bind fun x232 =>
 (intD .and .i64 (w64 ((w64 ((w64 (x202 * 131)) + (w64 (x232)))) + 7)) 1073741823).bind fun x233 =>
 spec_l01New_l1_r N x1 tl x233 (w64 (x203 + 1))
 else
 some x202)
theorem spec_l01New_l1_rng (N : Nat) (x1 : (List Int)) (hx : x1.length ≤ 1099511627776) : ∀ (d k m : Nat) (x202 : Int),x1.length = k + d → d < m → spec_l01New_l1 N x1 m x202 (k : Int) = spec_l01New_l1_r N x1 (x1.drop k) x202 (k : Int) := by
 intro d
 induction d with
 | zero =>
  intro k m x202 hd hm
  obtain ⟨m,rfl⟩ : ∃ q,m = q + 1 := ⟨m - 1,by omega⟩
  rw [spec_l01New_l1,if_neg (by simp; omega),List.drop_eq_nil_of_le (by omega),spec_l01New_l1_r]
 | succ d ih =>
  intro k m x202 hd hm
  obtain ⟨m,rfl⟩ : ∃ q,m = q + 1 := ⟨m - 1,by omega⟩
  have hk : k < x1.length := by omega
  rw [spec_l01New_l1,if_pos (by simp; omega),List.drop_eq_getElem_cons hk,spec_l01New_l1_r]
  have h1 := at_lt hk
  have h2 := w64_succ (k := k) (by omega)
  have h3 := ih (k + 1) m
  simp only [h1,h2,h3 _ (by omega) (by omega)]
theorem spec_l01New_l1_eq {N : Nat} (x1 : (List Int)) (hx : x1.length ≤ 1099511627776) (hN : x1.length < N) (x202 : Int) : spec_l01New_l1 N x1 N x202 0 = spec_l01New_l1_r N x1 x1 x202 0 := spec_l01New_l1_rng N x1 hx x1.length 0 N x202 (by omega) hN
def spec_l01New (N : Nat) (x1 : (List Int)) : Option (Tl01Cur) :=
 joinP (fun (v200 : Int) =>
 some (Tl01Cur.mk x1 0 v200)) fun j200 =>
 (spec_l01New_l1 N x1 N (w64 (10301 + (x1.length : Int))) 0).bind (fun v218 => j200 v218)
theorem sem_spec_l01New (N : Nat) (x1 : (List Int)) (r : Tl01Cur) (h : spec_l01New N x1 = some r) : Says Try.prog 17 [RO 5 (x1.map encU)] 0 [] (.ptr 0 0) [(0,.box [RO 5 (r.b.map encU),VI r.i,VI r.h])] := by
 unfold spec_l01New at h
 refine Says.of_norm e Try.call17 e fun B hB => ?_
 have hm : B.m ≤ 1000 := by omega
 refine Run.so hm (.p e (.nil (.so hm (.p e (.z 5112 (Ev.lnF e) e e (.p2 e e (.nil (.seqO h (fun v200 => [(0,RO 5 (x1.map encU)),(3,VI v200)]) (fun (v200 : Int) => []) (fun h => ?_) (fun v200 h => ?_)))))))))
 ·refine Run.so hm (.p e (.nil (.block ?_)))
  obtain ⟨res218,h,hk218⟩ := bindO h
  refine Run.loop (n := N) (fun m218 fr σ => ∃ (x202 : Int),∃ (x203 : Int),spec_l01New_l1 N x1 m218 x202 x203 = some res218 ∧ fr = [(0,RO 5 (x1.map encU)),(3,VI x202),(4,VI x203)] ∧ σ = []) (gh_pk [0,3,4] [] hB e e e e) ⟨_,_,h,e,e⟩ ?_
  rintro m218 fr σ ⟨x202,x203,h,rfl,rfl⟩
  obtain _ | m218 := m218
  ·rw [spec_l01New_l1] at h; cases h
  rw [spec_l01New_l1] at h
  refine Run.seq (.so hm (.p2 e e (.z 13320 (Ev.lnF e) e e (.p2 e e (.askO (x := .t 12) e h (fun g224 h => ?_) (fun g224 h => ?_))))))
  ·refine Ops.gp e g224 e (.gp e g224 e (.z 13400 (.pkT e g224 e) e e (.nil (.condO e h (fun g225 h => ?_) (fun g225 h => ?_)))))
   ·refine Run.skip (.seq (.block (.ops hm (.p3 e e e (.p e ?_)))))
    obtain ⟨x232,hx232,h⟩ := bindO h
    refine Ops.z 21544 (Ev.iaF e e hx232) e e (.p3 e e e (.p e ?_))
    obtain ⟨x233,hx233,h⟩ := bindO h
    exact Ops.z 21624 (.bin e e hx233) e e (.p e (.nil (.ops hm (.p3 e e e (.nil (⟨m218,Nat.lt_succ_self m218,_,_,(gh_pk [0,3,4] [] hB e e e e),_,_,h,e,e⟩))))))
   ·refine Run.exit ?_
    obtain rfl := someO h
    have h := hk218
    exact ⟨_,_,(gh_pk [0,3] [] hB e e e e),_,h,e,e⟩
  ·refine Ops.gn e g224 (.gn e g224 (.z 13400 (.pkF e g224 e) e e (.nil (.condF e e (.exit ?_)))))
   obtain rfl := someO h
   have h := hk218
   exact ⟨_,_,(gh_pk [0,3] [] hB e e e e),_,h,e,e⟩
 ·refine Run.so hm (.p2 e e (.z 25608 (.bd e e) e e (.z 25624 (.bx e e) e e (.p e (.nil (.ret ?_))))))
  obtain rfl := someO h
  exact Ends.mkG (.inl e) e (gh_pk [0] [25624] hB e e e e) e e
def spec_l01Byte (N : Nat) (x1 : Tl01Cur) : Option (Int × Tl01Cur) :=
 (intSh .shr .i64 (w64 ((w64 (x1.h * 6364136223846793005)) + 1442695040888963407)) 33).bind fun x147 =>
 (intSh .shr .i64 (w64 ((w64 (x1.h * 6364136223846793005)) + 1442695040888963407)) 45).bind fun x148 =>
 (intD .xor .i64 x147 x148).bind fun x149 =>
 (intD .and .i64 x149 255).bind fun x150 =>
 joinP (fun (v160 : Int × Int) =>
 some (v160.1,(Tl01Cur.mk x1.b v160.2 (w64 ((w64 (x1.h * 6364136223846793005)) + 1442695040888963407))))) fun j160 =>
 (if (decide (x1.i < (x1.b.length : Int))) = true then
 (at? x1.b x1.i).bind fun x168 =>
 (intD .and .i64 (w64 (x150 + (w64 (x168)))) 255).bind fun x169 =>
 j160 (x169,w64 (x1.i + 1))
 else
 j160 (x150,x1.i))
theorem sem_spec_l01Byte (N : Nat) (x1 : Tl01Cur) (r : Int × Tl01Cur) (h : spec_l01Byte N x1 = some r) : Says Try.prog 36 [.ptr 0 0] 1 [(0,.box [RO 5 (x1.b.map encU),VI x1.i,VI x1.h])] (VI r.1) [(0,.box [RO 5 (r.2.b.map encU),VI r.2.i,VI r.2.h])] := by
 unfold spec_l01Byte at h
 refine Says.of_norm e Try.call36 e fun B hB => ?_
 have hm : B.m ≤ 1000 := by omega
 refine Run.so hm (.p e (.nil (.so hm (.p3 e e e (.p3 e e e (.p3 e e e (.y 5240 (.sto e e e e e e) e e (.nil (.seq (.draw hm hmix (.p e (.p e (.p e (.p e ?_))))))))))))))
 obtain ⟨x147,hx147,h⟩ := bindO h
 refine OpsD.z 9256 (.sh e e hx147) e e (.p e (.p e (.p e (.p e ?_))))
 obtain ⟨x148,hx148,h⟩ := bindO h
 refine OpsD.z 9336 (.sh e e hx148) e e ?_
 obtain ⟨x149,hx149,h⟩ := bindO h
 refine OpsD.z 9352 (.bin e e hx149) e e ?_
 obtain ⟨x150,hx150,h⟩ := bindO h
 refine OpsD.z 9368 (.bin e e hx150) e e (.p e (.nil ⟨by kernel_rfl,?_⟩))
 refine Run.seqO h (fun v160 => [(3,VI v160.1)]) (fun (v160 : Int × Int) => [(0,.box [RO 5 (x1.b.map encU),VI v160.2,VI (w64 ((w64 (x1.h * 6364136223846793005)) + 1442695040888963407))])]) (fun h => ?_) (fun v160 h => ?_)
 ·refine Run.seq (.draw hm hmix (.p e (.p e (.p e (.p e (.p e (.p e (.p e (.p e (.z 13416 (Ev.lnF e) e e (.p e (.nil ⟨by kernel_rfl,?_⟩))))))))))))
  refine Run.condO e h (fun g161 h => ?_) (fun g161 h => ?_)
  ·refine Run.seq (.draw hm hmix (.p e (.p e (.p e (.p e (.p e (.p e (.p e (.p e (.p e ?_))))))))))
   obtain ⟨x168,hx168,h⟩ := bindO h
   refine OpsD.z 17528 (Ev.iaF e e hx168) e e (.p e (.p e (.p e ?_)))
   obtain ⟨x169,hx169,h⟩ := bindO h
   refine OpsD.z 17592 (.bin e e hx169) e e (.p e (.nil ⟨by kernel_rfl,?_⟩))
   exact Run.ops hm (.p3 e e e (.p3 e e e (.p2 e e (.y 21608 (.sto e e e e e e) e e (.nil (⟨_,_,(gh_pk [3] [0] hB e e e e),_,h,e,e⟩))))))
  ·exact Run.skip (⟨_,_,(gh_pk [3] [0] hB e e e e),_,h,e,e⟩)
 ·refine Run.so hm (.p2 e e (.nil (.ret ?_)))
  obtain rfl := someO h
  exact Ends.mkG (.inl e) e (gh_pk [0] [0] hB e e e e) e e
def spec_l01Below (N : Nat) (x1 : Tl01Cur) (x2 : Int) : Option (Int × Tl01Cur) :=
 (if (decide (x2 ≤ 0)) = true then
 some (0,x1)
 else
 (if (decide (x2 ≤ 256)) = true then
 (spec_l01Byte N x1).bind fun y140 =>
 (intD .rem .i64 y140.1 x2).bind fun x141 =>
 some (x141,y140.2)
 else
 (spec_l01Byte N x1).bind fun y145 =>
 (spec_l01Byte N y145.2).bind fun y149 =>
 (spec_l01Byte N y149.2).bind fun y153 =>
 (spec_l01Byte N y153.2).bind fun y157 =>
 (intD .rem .i64 (w64 ((w64 ((w64 ((w64 (y145.1 * 16777216)) + (w64 (y149.1 * 65536)))) + (w64 (y153.1 * 256)))) + y157.1)) x2).bind fun x159 =>
 some (x159,y157.2)))
theorem sem_spec_l01Below (N : Nat) (x1 : Tl01Cur) (x2 : Int) (r : Int × Tl01Cur) (h : spec_l01Below N x1 x2 = some r) : Says Try.prog 37 [.ptr 0 0,VI x2] 1 [(0,.box [RO 5 (x1.b.map encU),VI x1.i,VI x1.h])] (VI r.1) [(0,.box [RO 5 (r.2.b.map encU),VI r.2.i,VI r.2.h])] := by
 unfold spec_l01Below at h
 refine Says.of_norm e Try.call37 e fun B hB => ?_
 have hm : B.m ≤ 1000 := by omega
 refine Run.so hm (.p e (.nil (.seq (.so hm (.p2 e e (.nil (.condO e h (fun g131 h => ?_) (fun g131 h => ?_))))))))
 ·refine Run.so hm (.p e (.nil (.ret ?_)))
  obtain rfl := someO h
  exact Ends.mkG (.inl e) e (gh_pk [0] [0] hB e e e e) e e
 ·refine Run.skip (.seq (.so hm (.p2 e e (.nil (.condO e h (fun g137 h => ?_) (fun g137 h => ?_))))))
  ·refine Run.so hm (.p e ?_)
   obtain ⟨y140,hy140,h⟩ := bindO h
   refine Ops.z 17400 (Ev.call [0] [] 0 (sem_spec_l01Byte _ _ _ hy140) e e (.cons (.ptr e) .nil) e (.inl e) e e) e e (.p e ?_)
   obtain ⟨x141,hx141,h⟩ := bindO h
   refine Ops.z 17432 (.bin e e hx141) e e (.p e (.nil (.ret ?_)))
   obtain rfl := someO h
   exact Ends.mkG (.inl e) e (gh_pk [0] [0] hB e e e e) e e
  ·refine Run.skip (.so hm (.p e ?_))
   obtain ⟨y145,hy145,h⟩ := bindO h
   refine Ops.z 21496 (Ev.call [0] [] 0 (sem_spec_l01Byte _ _ _ hy145) e e (.cons (.ptr e) .nil) e (.inl e) e e) e e (.p e (.nil (.so hm (.p e ?_))))
   obtain ⟨y149,hy149,h⟩ := bindO h
   refine Ops.z 25592 (Ev.call [0] [] 0 (sem_spec_l01Byte _ _ _ hy149) e e (.cons (.ptr e) .nil) e (.inl e) e e) e e (.p e (.nil (.so hm (.p e ?_))))
   obtain ⟨y153,hy153,h⟩ := bindO h
   refine Ops.z 29688 (Ev.call [0] [] 0 (sem_spec_l01Byte _ _ _ hy153) e e (.cons (.ptr e) .nil) e (.inl e) e e) e e (.p e (.nil (.so hm (.p e ?_))))
   obtain ⟨y157,hy157,h⟩ := bindO h
   refine Ops.z 33784 (Ev.call [0] [] 0 (sem_spec_l01Byte _ _ _ hy157) e e (.cons (.ptr e) .nil) e (.inl e) e e) e e (.p e (.nil (.so hm (.p3 e e e (.p3 e e e (.p3 e e e (.p2 e e ?_)))))))
   obtain ⟨x159,hx159,h⟩ := bindO h
   refine Ops.z 38040 (.bin e e hx159) e e (.p e (.nil (.ret ?_)))
   obtain rfl := someO h
   exact Ends.mkG (.inl e) e (gh_pk [0] [0] hB e e e e) e e
def spec_l01Once (N : Nat) (x1 : Tl01Cur) (x2 : Int) : Option (Bool × Tl01Cur) :=
 (spec_l01Below N x1 x2).bind fun y103 =>
 some ((y103.1 == 0),y103.2)
theorem sem_spec_l01Once (N : Nat) (x1 : Tl01Cur) (x2 : Int) (r : Bool × Tl01Cur) (h : spec_l01Once N x1 x2 = some r) : Says Try.prog 42 [.ptr 0 0,VI x2] 1 [(0,.box [RO 5 (x1.b.map encU),VI x1.i,VI x1.h])] (VB r.1) [(0,.box [RO 5 (r.2.b.map encU),VI r.2.i,VI r.2.h])] := by
 unfold spec_l01Once at h
 refine Says.of_norm e Try.call42 e fun B hB => ?_
 have hm : B.m ≤ 1000 := by omega
 refine Run.so hm (.p e (.nil (.so hm (.p2 e e ?_))))
 obtain ⟨y103,hy103,h⟩ := bindO h
 refine Ops.z 5128 (Ev.call [0] [] 0 (sem_spec_l01Below _ _ _ _ hy103) e e (.cons (.ptr e) (.d1 .nil)) e (.inl e) e e) e e (.p2 e e (.nil (.ret ?_)))
 obtain rfl := someO h
 exact Ends.mkG (.inl e) e (gh_pk [0] [0] hB e e e e) e e
def spec_l01PickInt (N : Nat) (x1 : Tl01Cur) (x2 : (List Int)) : Option (Int × Tl01Cur) :=
 (spec_l01Below N x1 (x2.length : Int)).bind fun y106 =>
 (at? x2 y106.1).bind fun x107 =>
 some (x107,y106.2)
theorem sem_spec_l01PickInt (N : Nat) (x1 : Tl01Cur) (x2 : (List Int)) (r : Int × Tl01Cur) (h : spec_l01PickInt N x1 x2 = some r) : Says Try.prog 67 [.ptr 0 0,RO 3 (x2.map encI)] 1 [(0,.box [RO 5 (x1.b.map encU),VI x1.i,VI x1.h])] (VI r.1) [(0,.box [RO 5 (r.2.b.map encU),VI r.2.i,VI r.2.h])] := by
 unfold spec_l01PickInt at h
 refine Says.of_norm e Try.call67 e fun B hB => ?_
 have hm : B.m ≤ 1000 := by omega
 refine Run.so hm (.p e (.nil (.so hm (.p3 e e e (.z 5144 (Ev.lnF e) e e ?_)))))
 obtain ⟨y106,hy106,h⟩ := bindO h
 refine Ops.z 5160 (Ev.call [0] [] 0 (sem_spec_l01Below _ _ _ _ hy106) e e (.cons (.ptr e) (.d1 .nil)) e (.inl e) e e) e e ?_
 obtain ⟨x107,hx107,h⟩ := bindO h
 refine Ops.z 5176 (Ev.iaF e e hx107) e e (.p2 e e (.nil (.ret ?_)))
 obtain rfl := someO h
 exact Ends.mkG (.inl e) e (gh_pk [0] [0] hB e e e e) e e
def spec_l01PickInt_i1 (N : Nat) (x1 : Tl01Cur) (x2 : (List Int)) : Option (Int × Tl01Cur) :=
 (spec_l01Below N x1 ((x2.length : Nat) : Int)).bind fun y106 =>
 (at? x2 y106.1).bind fun x107 =>
 some (x107,y106.2)
theorem sem_spec_l01PickInt_i1 (N : Nat) (x1 : Tl01Cur) (x2 : (List Int)) (r : Int × Tl01Cur) (h : spec_l01PickInt_i1 N x1 x2 = some r) : Says Try.prog 67 [.ptr 0 0,.sl 1 3 0 x2.length] 2 [(0,.box [RO 5 (x1.b.map encU),VI x1.i,VI x1.h]),(1,.vec 3 (x2.map encI))] (VI r.1) [(0,.box [RO 5 (r.2.b.map encU),VI r.2.i,VI r.2.h]),(1,.vec 3 (x2.map encI))] := by
 unfold spec_l01PickInt_i1 at h
 refine Says.of_norm e Try.call67 e fun B hB => ?_
 have hm : B.m ≤ 1000 := by omega
 refine Run.so hm (.p e (.nil (.so hm (.p3 e e e (.p e ?_)))))
 obtain ⟨y106,hy106,h⟩ := bindO h
 refine Ops.z 5160 (Ev.call [0] [] 0 (sem_spec_l01Below _ _ _ _ hy106) e e (.cons (.ptr e) (.d1 .nil)) e (.inl e) e e) e e ?_
 obtain ⟨x107,hx107,h⟩ := bindO h
 refine Ops.z 5176 (Ev.iaW e e e hx107) e e (.z 5192 (Ev.ldE (f := encI) e e (at_some hx107).2 e e e) e e (.p e (.nil (.ret ?_))))
 obtain rfl := someO h
 exact Ends.mkG (.inl e) e (gh_pk [0] [0,1] hB e e e e) e e
def spec_l07Conf_l1 (N : Nat) : Nat → Int → (List Int) → Int → Int → (List Int) → Option ((List Int) × Int × Int × (List Int))
 | 0,_,_,_,_,_ => none
 | m + 1,x208,x209,x210,x211,x212 =>
 (if (decide (x208 ≤ 4)) = true then
 joinP (fun (v235 : (List Int) × Int × Int × (List Int)) =>
 spec_l07Conf_l1 N m (w64 (x208 + 1)) v235.1 v235.2.1 v235.2.2.1 v235.2.2.2) fun j235 =>
 (spec_l01Once N (Tl01Cur.mk x209 x210 x211) 2).bind fun y237 =>
 (if y237.1 = true then
 (cat? x212 ([x208] : List Int)).bind fun x240 =>
 j235 (y237.2.b,y237.2.i,y237.2.h,x240)
 else
 j235 (y237.2.b,y237.2.i,y237.2.h,x212))
 else
 some (x209,x210,x211,x212))
def spec_l07Conf (N : Nat) (x1 : Tl01Cur) : Option ((List Int) × Tl01Cur) :=
 joinP (fun (v207 : (List Int) × Int × Int × (List Int)) =>
 joinP (fun (v244 : (List Int)) =>
 some (v244,(Tl01Cur.mk v207.1 v207.2.1 v207.2.2.1))) fun j244 =>
 (if (((v207.2.2.2.length : Nat) : Int) == 0) = true then
 (cat? v207.2.2.2 ([1] : List Int)).bind fun x247 =>
 j244 x247
 else
 j244 v207.2.2.2)) fun j207 =>
 (spec_l07Conf_l1 N N 1 x1.b x1.i x1.h ([] : List Int)).bind (fun v226 => j207 (v226.1,v226.2.1,v226.2.2.1,v226.2.2.2))
theorem sem_spec_l07Conf (N : Nat) (x1 : Tl01Cur) (r : (List Int) × Tl01Cur) (h : spec_l07Conf N x1 = some r) : Says Try.prog 69 [.ptr 0 0] 1 [(0,.box [RO 5 (x1.b.map encU),VI x1.i,VI x1.h])] (.sl 1 3 0 r.1.length) [(0,.box [RO 5 (r.2.b.map encU),VI r.2.i,VI r.2.h]),(1,.vec 3 (r.1.map encI))] := by
 unfold spec_l07Conf at h
 refine Says.of_norm e Try.call69 e fun B hB => ?_
 have hm : B.m ≤ 1000 := by omega
 refine Run.so hm (.p e (.nil (.so hm (.z 5096 (Ev.bsW (ys := ([] : List Int)) (f := encI) e .nil e e e e e) e e (.p e (.nil (.seqO h (fun v207 => [(3,.sl 1 3 0 v207.2.2.2.length)]) (fun (v207 : (List Int) × Int × Int × (List Int)) => [(0,.box [RO 5 (v207.1.map encU),VI v207.2.1,VI v207.2.2.1]),(1,.vec 3 (v207.2.2.2.map encI))]) (fun h => ?_) (fun v207 h => ?_))))))))
 ·refine Run.so hm (.p e (.nil (.block ?_)))
  obtain ⟨res226,h,hk226⟩ := bindO h
  refine Run.loop (n := N) (fun m226 fr σ => ∃ (x208 : Int),∃ (x209 : (List Int)),∃ (x210 : Int),∃ (x211 : Int),∃ (x212 : (List Int)),spec_l07Conf_l1 N m226 x208 x209 x210 x211 x212 = some res226 ∧ fr = [(0,.ptr 0 0),(3,.sl 1 3 0 x212.length),(4,VI x208)] ∧ σ = [(0,.box [RO 5 (x209.map encU),VI x210,VI x211]),(1,.vec 3 (x212.map encI))]) (gh_pk [0,3,4] [0,5096] hB e e e e) ⟨_,_,_,_,_,h,e,e⟩ ?_
  rintro m226 fr σ ⟨x208,x209,x210,x211,x212,h,rfl,rfl⟩
  obtain _ | m226 := m226
  ·rw [spec_l07Conf_l1] at h; cases h
  rw [spec_l07Conf_l1] at h
  refine Run.seq (.so hm (.p2 e e (.nil (.condO e h (fun g229 h => ?_) (fun g229 h => ?_)))))
  ·refine Run.skip (.seqO h (fun v235 => [(0,.ptr 0 0),(3,.sl 1 3 0 v235.2.2.2.length),(4,VI x208)]) (fun (v235 : (List Int) × Int × Int × (List Int)) => [(0,.box [RO 5 (v235.1.map encU),VI v235.2.1,VI v235.2.2.1]),(1,.vec 3 (v235.2.2.2.map encI))]) (fun h => ?_) (fun v235 h => ?_))
   ·refine Run.block (.so hm (.p e ?_))
    obtain ⟨y237,hy237,h⟩ := bindO h
    refine Ops.z 21496 (Ev.call [0] [] 0 (sem_spec_l01Once _ _ _ _ hy237) e e (.cons (.ptr e) (.d1 .nil)) e (.inl e) e e) e e (.nil (.condO e h (fun g238 h => ?_) (fun g238 h => ?_)))
    ·refine Run.ops hm (.p2 e e (.z 25608 (Ev.bsW (ys := ([x208] : List Int)) (f := encI) e (.d1 .nil) e e e e e) e e ?_))
     obtain ⟨x240,hx240,h⟩ := bindO h
     exact Ops.z 25624 (Ev.apW (f := encI) (ontoW e e e) (addsW e e e (fun _ => e)) e bt3 e hx240) e e (.p e (.nil (⟨_,_,(gh_pk [0,3,4] [0,25624] hB e e e e),_,h,e,e⟩)))
    ·exact Run.skip (⟨_,_,(gh_pk [0,3,4] [0,1] hB e e e e),_,h,e,e⟩)
   ·exact Run.ops hm (.p3 e e e (.nil (⟨m226,Nat.lt_succ_self m226,_,_,(gh_pk [0,3,4] [0,1] hB e e e e),_,_,_,_,_,h,e,e⟩)))
  ·refine Run.exit ?_
   obtain rfl := someO h
   have h := hk226
   exact ⟨_,_,(gh_pk [3] [0,1] hB e e e e),_,h,e,e⟩
 ·refine Run.seqO h (fun v244 => [(3,.sl 1 3 0 v244.length)]) (fun (v244 : (List Int)) => [(0,.box [RO 5 (v207.1.map encU),VI v207.2.1,VI v207.2.2.1]),(1,.vec 3 (v244.map encI))]) (fun h => ?_) (fun v244 h => ?_)
  ·refine Run.so hm (.p3 e e e (.nil (.condO e h (fun g245 h => ?_) (fun g245 h => ?_))))
   ·refine Run.ops hm (.p e (.z 33784 (Ev.bsW (ys := ([1] : List Int)) (f := encI) e (.d1 .nil) e e e e e) e e ?_))
    obtain ⟨x247,hx247,h⟩ := bindO h
    exact Ops.z 33800 (Ev.apW (f := encI) (ontoW e e e) (addsW e e e (fun _ => e)) e bt3 e hx247) e e (.p e (.nil (⟨_,_,(gh_pk [3] [0,33800] hB e e e e),_,h,e,e⟩)))
   ·exact Run.skip (⟨_,_,(gh_pk [3] [0,1] hB e e e e),_,h,e,e⟩)
  ·refine Run.so hm (.p2 e e (.nil (.ret ?_)))
   obtain rfl := someO h
   exact Ends.mkG (.inl e) e (gh_pk [0] [0,1] hB e e e e) e e
def spec_l01In (N : Nat) (x1 : Int) (x2 : Int) (x3 : Int) : Option (Bool) :=
 (if (decide (x1 ≥ x2)) = true then
 some (decide (x1 ≤ x3))
 else
 some false)
theorem sem_spec_l01In (N : Nat) (x1 : Int) (x2 : Int) (x3 : Int) (r : Bool) (h : spec_l01In N x1 x2 x3 = some r) : Says Try.prog 39 [VI x1,VI x2,VI x3] 0 [] (VB r) [] := by
 unfold spec_l01In at h
 refine Says.of_norm e Try.call39 e fun B hB => ?_
 have hm : B.m ≤ 1000 := by omega
 refine Run.so hm (.p e (.nil (.so hm (.p3 e e e (.p e (.askO (x := .t 10) e h (fun g103 h => ?_) (fun g103 h => ?_)))))))
 ·refine Ops.gp e g103 e (.gp e g103 e (.gp e g103 e (.z 5208 (.pkT e g103 e) e e (.p e (.nil (.ret ?_))))))
  obtain rfl := someO h
  exact Ends.mkG (.inl e) e (gh_pk [0] [] hB e e e e) e e
 ·refine Ops.gn e g103 (.gn e g103 (.gn e g103 (.z 5208 (.pkF e g103 e) e e (.p e (.nil (.ret ?_))))))
  obtain rfl := someO h
  exact Ends.mkG (.inl e) e (gh_pk [0] [] hB e e e e) e e
def spec_l07Rise_l1 (N : Nat) (x1 : (List Int)) (x2 : Int) (x3 : Int) : Nat → Int → Option ((Bool) ⊕ (Unit))
 | 0,_ => none
 | m + 1,x300 =>
 (if (decide (x300 < (x1.length : Int))) = true then
 joinP (fun (v348 : Unit) =>
 spec_l07Rise_l1 N x1 x2 x3 m (w64 (x300 + 1))) fun j348 =>
 (at? x1 x300).bind fun x355 =>
 (spec_l01In N x355 x2 x3).bind fun y356 =>
 (if (!y356) = true then
 some (Sum.inl false)
 else
 (if (decide (x300 > 0)) = true then
 (at? x1 (w64 (x300 - 1))).bind fun x359 =>
 (at? x1 x300).bind fun x360 =>
 (if (decide (x359 ≥ x360)) = true then
 some (Sum.inl false)
 else
 j348 ())
 else
 j348 ()))
 else
 some (Sum.inr ()))
def spec_l07Rise_l1_r (N : Nat) (x1 : (List Int)) (x2 : Int) (x3 : Int) : (List Int) → Int → Option ((Bool) ⊕ (Unit))
 | [],x300 =>
 some (Sum.inr ())
 | hd :: tl,x300 =>
 joinP (fun (v348 : Unit) =>
 spec_l07Rise_l1_r N x1 x2 x3 tl (w64 (x300 + 1))) fun j348 =>
 (some hd).bind fun x355 =>
 (spec_l01In N x355 x2 x3).bind fun y356 =>
 (if (!y356) = true then
 some (Sum.inl false)
 else
 (if (decide (x300 > 0)) = true then
 (at? x1 (w64 (x300 - 1))).bind fun x359 =>
 (some hd).bind fun x360 =>
 (if (decide (x359 ≥ x360)) = true then
 some (Sum.inl false)
 else
 j348 ())
 else
 j348 ()))
theorem spec_l07Rise_l1_rng (N : Nat) (x1 : (List Int)) (x2 : Int) (x3 : Int) (hx : x1.length ≤ 1099511627776) : ∀ (d k m : Nat),x1.length = k + d → d < m → spec_l07Rise_l1 N x1 x2 x3 m (k : Int) = spec_l07Rise_l1_r N x1 x2 x3 (x1.drop k) (k : Int) := by
 intro d
 induction d with
 | zero =>
  intro k m hd hm
  obtain ⟨m,rfl⟩ : ∃ q,m = q + 1 := ⟨m - 1,by omega⟩
  rw [spec_l07Rise_l1,if_neg (by simp; omega),List.drop_eq_nil_of_le (by omega),spec_l07Rise_l1_r]
 | succ d ih =>
  intro k m hd hm
  obtain ⟨m,rfl⟩ : ∃ q,m = q + 1 := ⟨m - 1,by omega⟩
  have hk : k < x1.length := by omega
  rw [spec_l07Rise_l1,if_pos (by simp; omega),List.drop_eq_getElem_cons hk,spec_l07Rise_l1_r]
  have h1 := at_lt hk
  have h2 := w64_succ (k := k) (by omega)
  have h3 := ih (k + 1) m
  simp only [h1,h2,h3 (by omega) (by omega)]
theorem spec_l07Rise_l1_eq {N : Nat} (x1 : (List Int)) (x2 : Int) (x3 : Int) (hx : x1.length ≤ 1099511627776) (hN : x1.length < N) : spec_l07Rise_l1 N x1 x2 x3 N 0 = spec_l07Rise_l1_r N x1 x2 x3 x1 0 := spec_l07Rise_l1_rng N x1 x2 x3 hx x1.length 0 N (by omega) hN
def spec_l07Rise (N : Nat) (x1 : (List Int)) (x2 : Int) (x3 : Int) : Option (Bool) :=
 joinP (fun (v296 : Unit) =>
 some true) fun j296 =>
 (spec_l07Rise_l1 N x1 x2 x3 N 0).bind (Sum.elim (fun v330 => some v330) (fun (v331 : Unit) => j296 ()))
theorem sem_spec_l07Rise (N : Nat) (x1 : (List Int)) (x2 : Int) (x3 : Int) (r : Bool) (h : spec_l07Rise N x1 x2 x3 = some r) : Says Try.prog 87 [RO 3 (x1.map encI),VI x2,VI x3] 0 [] (VB r) [] := by
 unfold spec_l07Rise at h
 refine Says.of_norm e Try.call87 e fun B hB => ?_
 have hm : B.m ≤ 1000 := by omega
 refine Run.so hm (.p e (.nil (.seqO h (fun v296 => []) (fun (v296 : Unit) => []) (fun h => ?_) (fun v296 h => ?_))))
 ·refine Run.so hm (.p e (.nil (.block ?_)))
  obtain ⟨res331,h,hk331⟩ := bindO h
  refine Run.loop (n := N) (fun m331 fr σ => ∃ (x300 : Int),spec_l07Rise_l1 N x1 x2 x3 m331 x300 = some res331 ∧ fr = [(0,RO 3 (x1.map encI)),(1,VI x2),(2,VI x3),(7,VI x300)] ∧ σ = []) (gh_pk [0,1,2,7] [] hB e e e e) ⟨_,h,e,e⟩ ?_
  rintro m331 fr σ ⟨x300,h,rfl,rfl⟩
  obtain _ | m331 := m331
  ·rw [spec_l07Rise_l1] at h; cases h
  rw [spec_l07Rise_l1] at h
  refine Run.seq (.so hm (.p2 e e (.z 9224 (Ev.lnF e) e e (.p e (.nil (.condO e h (fun g334 h => ?_) (fun g334 h => ?_)))))))
  ·refine Run.skip (.seqO h (fun v348 => [(0,RO 3 (x1.map encI)),(1,VI x2),(2,VI x3),(7,VI x300)]) (fun (v348 : Unit) => []) (fun h => ?_) (fun v348 h => ?_))
   ·refine Run.block (.seq (.draw hm hmix (.p e (.p e ?_))))
    obtain ⟨x355,hx355,h⟩ := bindO h
    refine OpsD.z 17416 (Ev.iaF e e hx355) e e (.p e (.p e (.p e ?_)))
    obtain ⟨y356,hy356,h⟩ := bindO h
    refine OpsD.z 17480 (Ev.call [] [] 0 (sem_spec_l01In _ _ _ _ _ hy356) e e (.d2 (.d1 .nil)) e (.inl e) e e) e e (.p e (.p e (.askO (x := .t 22) e h (fun g357 h => ?_) (fun g357 h => ?_))))
    ·refine OpsD.gn e g357 (.gn e g357 (.gn e g357 (.gu e (.gu e (.gu e (.gu e (.gu e (.gu e (.gu e (.gu e (.gu e (.gu e (.gn e g357 (.z 17752 (.pkT e g357 e) e e (.nil ⟨by kernel_rfl,?_⟩)))))))))))))))
     refine Run.condT e e (.so hm (.p e (.nil (.ret ?_))))
     obtain rfl := someO h
     have h := hk331
     replace h := inlO h
     obtain rfl := someO h
     exact Ends.mkG (.inl e) e (gh_pk [0] [] hB e e e e) e e
    ·refine OpsD.gp e g357 e (.gp e g357 e (.gp e g357 e (.askO (x := .t 25) e h (fun g358 h => ?_) (fun g358 h => ?_))))
     ·refine OpsD.gp e g358 e (.gp e g358 e (.gp e g358 e ?_))
      obtain ⟨x359,hx359,h⟩ := bindO h
      refine OpsD.gs (s := 17624) e g358 (Ev.iaF e e hx359) e e (.gp e g358 e (.gp e g358 e (.gp e g358 e ?_)))
      obtain ⟨x360,hx360,h⟩ := bindO h
      refine OpsD.gs (s := 17688) e g358 (Ev.iaF e e hx360) e e (.gp e g358 e (.gp e g358 e (.gs (s := 17736) e g357 (.pkT e g358 e) e e (.z 17752 (.pkF e g357 e) e e (.nil ⟨by kernel_rfl,?_⟩)))))
      refine Run.condO e h (fun g361 h => ?_) (fun g361 h => ?_)
      ·refine Run.so hm (.p e (.nil (.ret ?_)))
       obtain rfl := someO h
       have h := hk331
       replace h := inlO h
       obtain rfl := someO h
       exact Ends.mkG (.inl e) e (gh_pk [0] [] hB e e e e) e e
      ·exact Run.skip (⟨_,_,(gh_pk [0,1,2,7] [] hB e e e e),(),h,e,e⟩)
     ·refine OpsD.gn e g358 (.gn e g358 (.gn e g358 (.gn e g358 (.gn e g358 (.gn e g358 (.gn e g358 (.gn e g358 (.gn e g358 (.gn e g358 (.gs (s := 17736) e g357 (.pkF e g358 e) e e (.z 17752 (.pkF e g357 e) e e (.nil ⟨by kernel_rfl,?_⟩))))))))))))
      exact Run.condF e e (.skip (⟨_,_,(gh_pk [0,1,2,7] [] hB e e e e),(),h,e,e⟩))
   ·exact Run.ops hm (.p3 e e e (.nil (⟨m331,Nat.lt_succ_self m331,_,_,(gh_pk [0,1,2,7] [] hB e e e e),_,h,e,e⟩)))
  ·refine Run.exit ?_
   obtain rfl := someO h
   have h := hk331
   replace h := inrO h
   exact ⟨_,_,(gh_pk [] [] hB e e e e),(),h,e,e⟩
 ·refine Run.so hm (.p e (.nil (.ret ?_)))
  obtain rfl := someO h
  exact Ends.mkG (.inl e) e (gh_pk [0] [] hB e e e e) e e
def spec_ConfOk (N : Nat) (x1 : (List Int)) : Option (Bool) :=
 (spec_l01In N (x1.length : Int) 1 4).bind fun y109 =>
 (if y109 = true then
 (spec_l07Rise N x1 1 4).bind fun y111 =>
 some y111
 else
 some false)
theorem sem_spec_ConfOk (N : Nat) (x1 : (List Int)) (r : Bool) (h : spec_ConfOk N x1 = some r) : Says Try.prog 80 [RO 3 (x1.map encI)] 0 [] (VB r) [] := by
 unfold spec_ConfOk at h
 refine Says.of_norm e Try.call80 e fun B hB => ?_
 have hm : B.m ≤ 1000 := by omega
 refine Run.so hm (.p e (.nil (.so hm (.p e (.z 5112 (Ev.lnF e) e e ?_)))))
 obtain ⟨y109,hy109,h⟩ := bindO h
 refine Ops.z 5128 (Ev.call [] [] 0 (sem_spec_l01In _ _ _ _ _ hy109) e e (.d2 (.d1 .nil)) e (.inl e) e e) e e (.p e (.askO (x := .t 6) e h (fun g110 h => ?_) (fun g110 h => ?_)))
 ·refine Ops.gp e g110 e ?_
  obtain ⟨y111,hy111,h⟩ := bindO h
  refine Ops.gs (s := 5176) e g110 (Ev.call [] [] 0 (sem_spec_l07Rise _ _ _ _ _ hy111) e e (.d2 (.d1 .nil)) e (.inl e) e e) e e (.z 5192 (.pkT e g110 e) e e (.p e (.nil (.ret ?_))))
  obtain rfl := someO h
  exact Ends.mkG (.inl e) e (gh_pk [0] [] hB e e e e) e e
 ·refine Ops.gn e g110 (.gn e g110 (.z 5192 (.pkF e g110 e) e e (.p e (.nil (.ret ?_)))))
  obtain rfl := someO h
  exact Ends.mkG (.inl e) e (gh_pk [0] [] hB e e e e) e e
def spec_ConfText_l1 (N : Nat) (x1 : (List Int)) : Nat → Int → (List Int) → Option ((List Int))
 | 0,_,_ => none
 | m + 1,x190,x191 =>
 (if (decide (x190 < (x1.length : Int))) = true then
 (at? x1 x190).bind fun x212 =>
 (cat? x191 ([IntKind.wrap .u8 (x212)] : List Int)).bind fun x213 =>
 spec_ConfText_l1 N x1 m (w64 (x190 + 1)) x213
 else
 some x191)
def spec_ConfText_l1_r (N : Nat) (x1 : (List Int)) : (List Int) → Int → (List Int) → Option ((List Int))
 | [],x190,x191 =>
 some x191
 | hd :: tl,x190,x191 =>
 (some hd).bind fun x212 =>
 (cat? x191 ([IntKind.wrap .u8 (x212)] : List Int)).bind fun x213 =>
 spec_ConfText_l1_r N x1 tl (w64 (x190 + 1)) x213
theorem spec_ConfText_l1_rng (N : Nat) (x1 : (List Int)) (hx : x1.length ≤ 1099511627776) : ∀ (d k m : Nat) (x191 : (List Int)),x1.length = k + d → d < m → spec_ConfText_l1 N x1 m (k : Int) x191 = spec_ConfText_l1_r N x1 (x1.drop k) (k : Int) x191 := by
 intro d
 induction d with
 | zero =>
  intro k m x191 hd hm
  obtain ⟨m,rfl⟩ : ∃ q,m = q + 1 := ⟨m - 1,by omega⟩
  rw [spec_ConfText_l1,if_neg (by simp; omega),List.drop_eq_nil_of_le (by omega),spec_ConfText_l1_r]
 | succ d ih =>
  intro k m x191 hd hm
  obtain ⟨m,rfl⟩ : ∃ q,m = q + 1 := ⟨m - 1,by omega⟩
  have hk : k < x1.length := by omega
  rw [spec_ConfText_l1,if_pos (by simp; omega),List.drop_eq_getElem_cons hk,spec_ConfText_l1_r]
  have h1 := at_lt hk
  have h2 := w64_succ (k := k) (by omega)
  have h3 := ih (k + 1) m
  simp only [h1,h2,h3 _ (by omega) (by omega)]
theorem spec_ConfText_l1_eq {N : Nat} (x1 : (List Int)) (hx : x1.length ≤ 1099511627776) (hN : x1.length < N) (x191 : (List Int)) : spec_ConfText_l1 N x1 N 0 x191 = spec_ConfText_l1_r N x1 x1 0 x191 := spec_ConfText_l1_rng N x1 hx x1.length 0 N x191 (by omega) hN
def spec_ConfText (N : Nat) (x1 : (List Int)) : Option (ByteArray × Bool) :=
 (spec_ConfOk N x1).bind fun y161 =>
 (if (!y161) = true then
 some ((⟨#[]⟩ : ByteArray),false)
 else
 joinP (fun (v188 : (List Int)) =>
 some (strOf v188,true)) fun j188 =>
 (spec_ConfText_l1 N x1 N 0 ([] : List Int)).bind (fun v202 => j188 v202))
theorem sem_spec_ConfText (N : Nat) (x1 : (List Int)) (r : ByteArray × Bool) (h : spec_ConfText N x1 = some r) : Says Try.prog 68 [RO 3 (x1.map encI)] 0 [] (.tup [VS r.1,VB r.2]) [] := by
 unfold spec_ConfText at h
 refine Says.of_norm e Try.call68 e fun B hB => ?_
 have hm : B.m ≤ 1000 := by omega
 refine Run.so hm (.p2 e e (.nil (.seq (.so hm (.p e ?_)))))
 obtain ⟨y161,hy161,h⟩ := bindO h
 refine Ops.z 5112 (Ev.call [] [] 0 (sem_spec_ConfOk _ _ _ hy161) e e (.d1 .nil) e (.inl e) e e) e e (.p e (.nil (.condO e h (fun g162 h => ?_) (fun g162 h => ?_))))
 ·refine Run.so hm (.p2 e e (.nil (.ret ?_)))
  obtain rfl := someO h
  exact Ends.mkG (.inl e) e (gh_pk [0,1] [] hB e e e e) e e
 ·refine Run.skip (.so hm (.z 13288 (Ev.bsW (ys := ([] : List Int)) (f := encU) e .nil e e e e e) e e (.p e (.nil (.seqO h (fun v188 => [(4,.sl 0 5 0 v188.length)]) (fun (v188 : (List Int)) => [(0,.vec 5 (v188.map encU))]) (fun h => ?_) (fun v188 h => ?_))))))
  ·refine Run.so hm (.p e (.nil (.block ?_)))
   obtain ⟨res202,h,hk202⟩ := bindO h
   refine Run.loop (n := N) (fun m202 fr σ => ∃ (x190 : Int),∃ (x191 : (List Int)),spec_ConfText_l1 N x1 m202 x190 x191 = some res202 ∧ fr = [(0,RO 3 (x1.map encI)),(4,.sl 0 5 0 x191.length),(5,VI x190)] ∧ σ = [(0,.vec 5 (x191.map encU))]) (gh_pk [0,4,5] [13288] hB e e e e) ⟨_,_,h,e,e⟩ ?_
   rintro m202 fr σ ⟨x190,x191,h,rfl,rfl⟩
   obtain _ | m202 := m202
   ·rw [spec_ConfText_l1] at h; cases h
   rw [spec_ConfText_l1] at h
   refine Run.seq (.so hm (.p2 e e (.z 21512 (Ev.lnF e) e e (.p e (.nil (.condO e h (fun g205 h => ?_) (fun g205 h => ?_)))))))
   ·refine Run.skip (.seq (.block (.ops hm (.p3 e e e ?_))))
    obtain ⟨x212,hx212,h⟩ := bindO h
    refine Ops.z 29720 (Ev.iaF e e hx212) e e (.p2 e e (.z 29768 (Ev.bsW (ys := ([IntKind.wrap .u8 (x212)] : List Int)) (f := encU) e (.d1 .nil) e e e e e) e e ?_))
    obtain ⟨x213,hx213,h⟩ := bindO h
    exact Ops.z 29784 (Ev.apW (f := encU) (ontoW e e e) (addsW e e e (fun _ => e)) e bt5 e hx213) e e (.p e (.nil (.ops hm (.p3 e e e (.nil (⟨m202,Nat.lt_succ_self m202,_,_,(gh_pk [0,4,5] [29784] hB e e e e),_,_,h,e,e⟩))))))
   ·refine Run.exit ?_
    obtain rfl := someO h
    have h := hk202
    exact ⟨_,_,(gh_pk [4] [0] hB e e e e),_,h,e,e⟩
  ·refine Run.so hm (.p e (.z 33784 (.sbC (addsW (f := encU) e e e (fun _ => e))) e e (.p2 e e (.nil (.ret ?_)))))
   obtain rfl := someO h
   exact Ends.mkG (.inl e) e (gh_pk [0,1] [] hB e e e e) e e
def spec_l01Pick (N : Nat) (x1 : Tl01Cur) (x2 : (List ByteArray)) : Option (ByteArray × Tl01Cur) :=
 (spec_l01Below N x1 (x2.length : Int)).bind fun y106 =>
 (at? x2 y106.1).bind fun x107 =>
 some (x107,y106.2)
theorem sem_spec_l01Pick (N : Nat) (x1 : Tl01Cur) (x2 : (List ByteArray)) (r : ByteArray × Tl01Cur) (h : spec_l01Pick N x1 x2 = some r) : Says Try.prog 83 [.ptr 0 0,RO 9 (x2.map encS)] 1 [(0,.box [RO 5 (x1.b.map encU),VI x1.i,VI x1.h])] (VS r.1) [(0,.box [RO 5 (r.2.b.map encU),VI r.2.i,VI r.2.h])] := by
 unfold spec_l01Pick at h
 refine Says.of_norm e Try.call83 e fun B hB => ?_
 have hm : B.m ≤ 1000 := by omega
 refine Run.so hm (.p e (.nil (.so hm (.p3 e e e (.z 5144 (Ev.lnF e) e e ?_)))))
 obtain ⟨y106,hy106,h⟩ := bindO h
 refine Ops.z 5160 (Ev.call [0] [] 0 (sem_spec_l01Below _ _ _ _ hy106) e e (.cons (.ptr e) (.d1 .nil)) e (.inl e) e e) e e ?_
 obtain ⟨x107,hx107,h⟩ := bindO h
 refine Ops.z 5176 (Ev.iaF e e hx107) e e (.p2 e e (.nil (.ret ?_)))
 obtain rfl := someO h
 exact Ends.mkG (.inl e) e (gh_pk [0] [0] hB e e e e) e e
def spec_l01Pick_i1 (N : Nat) (x1 : Tl01Cur) (x2 : (List ByteArray)) : Option (ByteArray × Tl01Cur) :=
 (spec_l01Below N x1 ((x2.length : Nat) : Int)).bind fun y106 =>
 (at? x2 y106.1).bind fun x107 =>
 some (x107,y106.2)
theorem sem_spec_l01Pick_i1 (N : Nat) (x1 : Tl01Cur) (x2 : (List ByteArray)) (r : ByteArray × Tl01Cur) (h : spec_l01Pick_i1 N x1 x2 = some r) : Says Try.prog 83 [.ptr 0 0,.sl 1 9 0 x2.length] 2 [(0,.box [RO 5 (x1.b.map encU),VI x1.i,VI x1.h]),(1,.vec 9 (x2.map encS))] (VS r.1) [(0,.box [RO 5 (r.2.b.map encU),VI r.2.i,VI r.2.h]),(1,.vec 9 (x2.map encS))] := by
 unfold spec_l01Pick_i1 at h
 refine Says.of_norm e Try.call83 e fun B hB => ?_
 have hm : B.m ≤ 1000 := by omega
 refine Run.so hm (.p e (.nil (.so hm (.p3 e e e (.p e ?_)))))
 obtain ⟨y106,hy106,h⟩ := bindO h
 refine Ops.z 5160 (Ev.call [0] [] 0 (sem_spec_l01Below _ _ _ _ hy106) e e (.cons (.ptr e) (.d1 .nil)) e (.inl e) e e) e e ?_
 obtain ⟨x107,hx107,h⟩ := bindO h
 refine Ops.z 5176 (Ev.iaW e e e hx107) e e (.z 5192 (Ev.ldE (f := encS) e e (at_some hx107).2 e e e) e e (.p e (.nil (.ret ?_))))
 obtain rfl := someO h
 exact Ends.mkG (.inl e) e (gh_pk [0] [0,1] hB e e e e) e e
def spec_l15Right (N : Nat) (x1 : Tl01Cur) : Option (Command × Tl01Cur) :=
 (spec_l01Below N x1 5).bind fun y142 =>
 (if ((w64 (1 + y142.1)) == 1) = true then
 some ((Command.mk (w64 (1 + y142.1)) 0 0 (⟨#[]⟩ : ByteArray) (⟨#[]⟩ : ByteArray) (⟨#[]⟩ : ByteArray)),y142.2)
 else
 (spec_l01Below N y142.2 4).bind fun y148 =>
 (spec_l01Below N y148.2 3).bind fun y152 =>
 (spec_l01Pick_i1 N y152.2 ([(⟨#[97]⟩ : ByteArray),(⟨#[98]⟩ : ByteArray),(⟨#[99]⟩ : ByteArray)] : List ByteArray)).bind fun y156 =>
 joinP (fun (v167 : (List Int) × Int × Int × ByteArray × ByteArray) =>
 some ((Command.mk (w64 (1 + y142.1)) (w64 (1 + y148.1)) (w64 (1 + y152.1)) y156.1 v167.2.2.2.1 v167.2.2.2.2),(Tl01Cur.mk v167.1 v167.2.1 v167.2.2.1))) fun j167 =>
 (if ((w64 (1 + y142.1)) == 3) = true then
 (spec_l01Pick_i1 N y156.2 ([(⟨#[]⟩ : ByteArray),(⟨#[49]⟩ : ByteArray),(⟨#[50]⟩ : ByteArray),(⟨#[116,104,114,101,101]⟩ : ByteArray)] : List ByteArray)).bind fun y170 =>
 j167 (y170.2.b,y170.2.i,y170.2.h,y170.1,(⟨#[]⟩ : ByteArray))
 else
 (if ((w64 (1 + y142.1)) == 5) = true then
 (spec_l01Pick_i1 N y156.2 ([(⟨#[]⟩ : ByteArray),(⟨#[49]⟩ : ByteArray),(⟨#[50]⟩ : ByteArray),(⟨#[116,104,114,101,101]⟩ : ByteArray)] : List ByteArray)).bind fun y175 =>
 (spec_l01Pick_i1 N y175.2 ([(⟨#[]⟩ : ByteArray),(⟨#[49]⟩ : ByteArray),(⟨#[50]⟩ : ByteArray),(⟨#[116,104,114,101,101]⟩ : ByteArray)] : List ByteArray)).bind fun y177 =>
 j167 (y177.2.b,y177.2.i,y177.2.h,y175.1,y177.1)
 else
 j167 (y156.2.b,y156.2.i,y156.2.h,(⟨#[]⟩ : ByteArray),(⟨#[]⟩ : ByteArray)))))
theorem sem_spec_l15Right (N : Nat) (x1 : Tl01Cur) (r : Command × Tl01Cur) (h : spec_l15Right N x1 = some r) : Says Try.prog 71 [.ptr 0 0] 1 [(0,.box [RO 5 (x1.b.map encU),VI x1.i,VI x1.h])] (.agg [VI r.1.Op,VI r.1.Session,VI r.1.Seq,VS r.1.Key,VS r.1.Value,VS r.1.Old]) [(0,.box [RO 5 (r.2.b.map encU),VI r.2.i,VI r.2.h])] := by
 unfold spec_l15Right at h
 refine Says.of_norm e Try.call71 e fun B hB => ?_
 have hm : B.m ≤ 1000 := by omega
 refine Run.so hm (.z 1000 (.al e e) e e (.nil (.so hm (.p e ?_))))
 obtain ⟨y142,hy142,h⟩ := bindO h
 refine Ops.z 5112 (Ev.call [0] [] 0 (sem_spec_l01Below _ _ _ _ hy142) e e (.cons (.ptr e) (.d1 .nil)) e (.inl e) e e) e e (.p e (.z 5144 (.bd e e) e e (.z 5160 (.al e e) e e (.y 5176 (.sto e e e e e e) e e (.nil (.seq (.so hm (.p3 e e e (.nil (.condO e h (fun g144 h => ?_) (fun g144 h => ?_)))))))))))
 ·refine Run.so hm (.p e (.y 13304 (.sto e e e e e e) e e (.nil (.ret ?_))))
  obtain rfl := someO h
  exact Ends.mkG (.inl e) e (gh_pk [0] [0] hB e e e e) e e
 ·refine Run.skip (.so hm (.p e ?_))
  obtain ⟨y148,hy148,h⟩ := bindO h
  refine Ops.z 17400 (Ev.call [0] [] 0 (sem_spec_l01Below _ _ _ _ hy148) e e (.cons (.ptr e) (.d1 .nil)) e (.inl e) e e) e e (.p2 e e (.y 17448 (.sto e e e e e e) e e (.nil (.so hm (.p e ?_)))))
  obtain ⟨y152,hy152,h⟩ := bindO h
  refine Ops.z 21496 (Ev.call [0] [] 0 (sem_spec_l01Below _ _ _ _ hy152) e e (.cons (.ptr e) (.d1 .nil)) e (.inl e) e e) e e (.p2 e e (.y 21544 (.sto e e e e e e) e e (.nil (.so hm (.p e (.z 25592 (Ev.bsW (ys := ([(⟨#[97]⟩ : ByteArray),(⟨#[98]⟩ : ByteArray),(⟨#[99]⟩ : ByteArray)] : List ByteArray)) (f := encS) e (.d2 (.d1 .nil)) e e e e e) e e ?_))))))
  obtain ⟨y156,hy156,h⟩ := bindO h
  refine Ops.z 25608 (Ev.call [0,25592] [] 0 (sem_spec_l01Pick_i1 _ _ _ _ hy156) e e (.cons (.ptr e) (.cons (.sl e) .nil)) e (.inl e) e e) e e (.p e (.y 25640 (.sto e e e e e e) e e (.nil (.seqO h (fun v167 => [(2,.ptr 1 0),(3,.ptr 2 0)]) (fun (v167 : (List Int) × Int × Int × ByteArray × ByteArray) => [(0,.box [RO 5 (v167.1.map encU),VI v167.2.1,VI v167.2.2.1]),(1,.box [VI 0,VI 0,VI 0,VS (⟨#[]⟩ : ByteArray),VS (⟨#[]⟩ : ByteArray),VS (⟨#[]⟩ : ByteArray)]),(2,.box [VI (w64 (1 + y142.1)),VI (w64 (1 + y148.1)),VI (w64 (1 + y152.1)),VS y156.1,VS v167.2.2.2.1,VS v167.2.2.2.2])]) (fun h => ?_) (fun v167 h => ?_)))))
  ·refine Run.so hm (.p2 e e (.nil (.block (.so hm (.p2 e e (.nil (.condO e h (fun g168 h => ?_) (fun g168 h => ?_))))))))
   ·refine Run.ops hm (.p e (.z 37880 (Ev.bsW (ys := ([(⟨#[]⟩ : ByteArray),(⟨#[49]⟩ : ByteArray),(⟨#[50]⟩ : ByteArray),(⟨#[116,104,114,101,101]⟩ : ByteArray)] : List ByteArray)) (f := encS) e (.d4 .nil) e e e e e) e e ?_))
    obtain ⟨y170,hy170,h⟩ := bindO h
    exact Ops.z 37896 (Ev.call [0,37880] [] 0 (sem_spec_l01Pick_i1 _ _ _ _ hy170) e e (.cons (.ptr e) (.cons (.sl e) .nil)) e (.inl e) e e) e e (.p e (.y 37928 (.sto e e e e e e) e e (.nil (⟨_,_,(gh_pk [2,3] [0,1000,5160] hB e e e e),_,h,e,e⟩))))
   ·refine Run.so hm (.p2 e e (.nil (.condO e h (fun g171 h => ?_) (fun g171 h => ?_))))
    ·refine Run.so hm (.p e (.z 46072 (Ev.bsW (ys := ([(⟨#[]⟩ : ByteArray),(⟨#[49]⟩ : ByteArray),(⟨#[50]⟩ : ByteArray),(⟨#[116,104,114,101,101]⟩ : ByteArray)] : List ByteArray)) (f := encS) e (.d4 .nil) e e e e e) e e ?_))
     obtain ⟨y175,hy175,h⟩ := bindO h
     refine Ops.z 46088 (Ev.call [0,46072] [] 0 (sem_spec_l01Pick_i1 _ _ _ _ hy175) e e (.cons (.ptr e) (.cons (.sl e) .nil)) e (.inl e) e e) e e (.p e (.y 46120 (.sto e e e e e e) e e (.nil (.ops hm (.p e (.z 50168 (Ev.bsW (ys := ([(⟨#[]⟩ : ByteArray),(⟨#[49]⟩ : ByteArray),(⟨#[50]⟩ : ByteArray),(⟨#[116,104,114,101,101]⟩ : ByteArray)] : List ByteArray)) (f := encS) e (.d4 .nil) e e e e e) e e ?_))))))
     obtain ⟨y177,hy177,h⟩ := bindO h
     exact Ops.z 50184 (Ev.call [0,50168] [] 0 (sem_spec_l01Pick_i1 _ _ _ _ hy177) e e (.cons (.ptr e) (.cons (.sl e) .nil)) e (.inl e) e e) e e (.p e (.y 50216 (.sto e e e e e e) e e (.nil (⟨_,_,(gh_pk [2,3] [0,1000,5160] hB e e e e),_,h,e,e⟩))))
    ·exact Run.skip (⟨_,_,(gh_pk [2,3] [0,1000,5160] hB e e e e),_,h,e,e⟩)
  ·refine Run.so hm (.p e (.y 54264 (.sto e e e e e e) e e (.nil (.ret ?_))))
   obtain rfl := someO h
   exact Ends.mkG (.inl e) e (gh_pk [0] [0] hB e e e e) e e
def spec_CommandOk (N : Nat) (x1 : Command) : Option (Bool) :=
 (spec_l01In N x1.Op 1 5).bind fun y167 =>
 (if (!y167) = true then
 some false
 else
 (spec_l01In N x1.Session 0 100000).bind fun y169 =>
 (if (!y169) = true then
 some false
 else
 (spec_l01In N x1.Seq 0 100000).bind fun y171 =>
 (if (!y171) = true then
 some false
 else
 (if (decide ((x1.Value.size : Int) > 12)) = true then
 some false
 else
 (if (decide ((x1.Old.size : Int) > 12)) = true then
 some false
 else
 (if (x1.Op == 1) = true then
 some (((x1.Op == 1) && ((x1.Session == 0) && ((x1.Seq == 0) && (decide (x1.Key = (⟨#[]⟩ : ByteArray)) && (decide (x1.Value = (⟨#[]⟩ : ByteArray)) && (decide (x1.Old = (⟨#[]⟩ : ByteArray)) && true)))))) ^^ false)
 else
 (spec_l01In N (x1.Key.size : Int) 1 9).bind fun y181 =>
 (if (!y181) = true then
 some false
 else
 (if (x1.Op == 2) = true then
 (if (decide (x1.Value = (⟨#[]⟩ : ByteArray))) = true then
 some (decide (x1.Old = (⟨#[]⟩ : ByteArray)))
 else
 some false)
 else
 (if (x1.Op == 4) = true then
 (if (decide (x1.Value = (⟨#[]⟩ : ByteArray))) = true then
 some (decide (x1.Old = (⟨#[]⟩ : ByteArray)))
 else
 some false)
 else
 (if (x1.Op == 3) = true then
 some (decide (x1.Old = (⟨#[]⟩ : ByteArray)))
 else
 some true))))))))))
theorem sem_spec_CommandOk (N : Nat) (x1 : Command) (r : Bool) (h : spec_CommandOk N x1 = some r) : Says Try.prog 81 [.agg [VI x1.Op,VI x1.Session,VI x1.Seq,VS x1.Key,VS x1.Value,VS x1.Old]] 0 [] (VB r) [] := by
 unfold spec_CommandOk at h
 refine Says.of_run s81 Try.call81 e fun B hB => ?_
 have hm : B.m ≤ 1000 := by omega
 refine Run.so hm (.z 1000 (.bx e e) e e (.p e (.nil (.seq (.so hm (.p2 e e ?_))))))
 obtain ⟨y167,hy167,h⟩ := bindO h
 refine Ops.z 5128 (Ev.call [] [] 0 (sem_spec_l01In _ _ _ _ _ hy167) e e (.d2 (.d1 .nil)) e (.inl e) e e) e e (.p2 e e (.askO (x := .t 7) e h (fun g168 h => ?_) (fun g168 h => ?_)))
 ·refine Ops.gn e g168 (.gn e g168 (.gn e g168 (.gn e g168 (.z 5240 (.pkT e g168 e) e e (.p e (.gn e e (.gn e e (.gn e e (.gn e e (.z 5336 (.pkT e e e) e e (.p e (.gn e e (.gn e e (.gn e e (.gn e e (.z 5432 (.pkT e e e) e e (.p e (.gn e e (.gn e e (.gn e e (.gn e e (.z 5528 (.pkT e e e) e e (.nil (.condT e e (.so hm (.p e (.nil (.ret ?_))))))))))))))))))))))))))))
  obtain rfl := someO h
  exact Ends.mkG (.inl e) e (gh_pk [0] [] hB e e e e) e e
 ·refine Ops.gp e g168 e (.gp e g168 e ?_)
  obtain ⟨y169,hy169,h⟩ := bindO h
  refine Ops.gs (s := 5208) e g168 (Ev.call [] [] 0 (sem_spec_l01In _ _ _ _ _ hy169) e e (.d2 (.d1 .nil)) e (.inl e) e e) e e (.gp e g168 e (.z 5240 (.pkF e g168 e) e e (.p e (.askO (x := .t 13) e h (fun g170 h => ?_) (fun g170 h => ?_)))))
  ·refine Ops.gn e g170 (.gn e g170 (.gn e g170 (.gn e g170 (.z 5336 (.pkT e g170 e) e e (.p e (.gn e e (.gn e e (.gn e e (.gn e e (.z 5432 (.pkT e e e) e e (.p e (.gn e e (.gn e e (.gn e e (.gn e e (.z 5528 (.pkT e e e) e e (.nil (.condT e e (.so hm (.p e (.nil (.ret ?_))))))))))))))))))))))
   obtain rfl := someO h
   exact Ends.mkG (.inl e) e (gh_pk [0] [] hB e e e e) e e
  ·refine Ops.gp e g170 e (.gp e g170 e ?_)
   obtain ⟨y171,hy171,h⟩ := bindO h
   refine Ops.gs (s := 5304) e g170 (Ev.call [] [] 0 (sem_spec_l01In _ _ _ _ _ hy171) e e (.d2 (.d1 .nil)) e (.inl e) e e) e e (.gp e g170 e (.z 5336 (.pkF e g170 e) e e (.p e (.askO (x := .t 19) e h (fun g172 h => ?_) (fun g172 h => ?_)))))
   ·refine Ops.gn e g172 (.gn e g172 (.gn e g172 (.gn e g172 (.z 5432 (.pkT e g172 e) e e (.p e (.gn e e (.gn e e (.gn e e (.gn e e (.z 5528 (.pkT e e e) e e (.nil (.condT e e (.so hm (.p e (.nil (.ret ?_))))))))))))))))
    obtain rfl := someO h
    exact Ends.mkG (.inl e) e (gh_pk [0] [] hB e e e e) e e
   ·refine Ops.gp e g172 e (.gp e g172 e (.gp e g172 e (.gp e g172 e (.z 5432 (.pkF e g172 e) e e (.p e (.askO (x := .t 25) e h (fun g173 h => ?_) (fun g173 h => ?_)))))))
    ·refine Ops.gn e g173 (.gn e g173 (.gn e g173 (.gn e g173 (.z 5528 (.pkT e g173 e) e e (.nil (.condT e e (.so hm (.p e (.nil (.ret ?_))))))))))
     obtain rfl := someO h
     exact Ends.mkG (.inl e) e (gh_pk [0] [] hB e e e e) e e
    ·refine Ops.gp e g173 e (.gp e g173 e (.gp e g173 e (.gp e g173 e (.z 5528 (.pkF e g173 e) e e (.nil (.condO e h (fun g174 h => ?_) (fun g174 h => ?_)))))))
     ·refine Run.so hm (.p e (.nil (.ret ?_)))
      obtain rfl := someO h
      exact Ends.mkG (.inl e) e (gh_pk [0] [] hB e e e e) e e
     ·refine Run.skip (.seq (.so hm (.p3 e e e (.nil (.condO e h (fun g176 h => ?_) (fun g176 h => ?_))))))
      ·refine Run.so hm (.p e (.z 17400 (.bd e e) e e (.p2 e e (.nil (.ret ?_)))))
       obtain rfl := someO h
       exact Ends.mkG (.inl e) e (gh_pk [0] [] hB e e e e) e e
      ·refine Run.skip (.seq (.so hm (.p3 e e e ?_)))
       obtain ⟨y181,hy181,h⟩ := bindO h
       refine Ops.z 21528 (Ev.call [] [] 0 (sem_spec_l01In _ _ _ _ _ hy181) e e (.d2 (.d1 .nil)) e (.inl e) e e) e e (.p e (.nil (.condO e h (fun g182 h => ?_) (fun g182 h => ?_))))
       ·refine Run.so hm (.p e (.nil (.ret ?_)))
        obtain rfl := someO h
        exact Ends.mkG (.inl e) e (gh_pk [0] [] hB e e e e) e e
       ·refine Run.skip (.seq (.so hm (.p2 e e (.nil (.block (.seq (.so hm (.p2 e e (.nil (.condO e h (fun g183 h => ?_) (fun g183 h => ?_)))))))))))
        ·refine Run.skip (.condT e g183 (.so hm (.p3 e e e (.p e (.askO (x := .t 50) e h (fun g185 h => ?_) (fun g185 h => ?_))))))
         ·refine Ops.gp e g185 e (.gp e g185 e (.gp e g185 e (.z 42072 (.pkT e g185 e) e e (.p e (.nil (.ret ?_))))))
          obtain rfl := someO h
          exact Ends.mkG (.inl e) e (gh_pk [0] [] hB e e e e) e e
         ·refine Ops.gn e g185 (.gn e g185 (.gn e g185 (.z 42072 (.pkF e g185 e) e e (.p e (.nil (.ret ?_))))))
          obtain rfl := someO h
          exact Ends.mkG (.inl e) e (gh_pk [0] [] hB e e e e) e e
        ·refine Run.ops hm (.p2 e e (.nil (.condO e h (fun g186 h => ?_) (fun g186 h => ?_))))
         ·refine Run.so hm (.p3 e e e (.p e (.askO (x := .t 50) e h (fun g188 h => ?_) (fun g188 h => ?_))))
          ·refine Ops.gp e g188 e (.gp e g188 e (.gp e g188 e (.z 42072 (.pkT e g188 e) e e (.p e (.nil (.ret ?_))))))
           obtain rfl := someO h
           exact Ends.mkG (.inl e) e (gh_pk [0] [] hB e e e e) e e
          ·refine Ops.gn e g188 (.gn e g188 (.gn e g188 (.z 42072 (.pkF e g188 e) e e (.p e (.nil (.ret ?_))))))
           obtain rfl := someO h
           exact Ends.mkG (.inl e) e (gh_pk [0] [] hB e e e e) e e
         ·refine Run.so hm (.p2 e e (.nil (.condO e h (fun g189 h => ?_) (fun g189 h => ?_))))
          ·refine Run.so hm (.p3 e e e (.p e (.nil (.ret ?_))))
           obtain rfl := someO h
           exact Ends.mkG (.inl e) e (gh_pk [0] [] hB e e e e) e e
          ·refine Run.skip (.so hm (.p e (.nil (.ret ?_))))
           obtain rfl := someO h
           exact Ends.mkG (.inl e) e (gh_pk [0] [] hB e e e e) e e
end Go.Proofs.Ythlhkcnilehbbaa.Pe.FnLogs
