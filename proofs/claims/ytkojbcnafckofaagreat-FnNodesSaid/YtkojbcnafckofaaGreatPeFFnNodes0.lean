/- Functions,as pure functions; and that Go does just that. -/
import Derived.Test.YtkojbcnafckofaaGreatPeTy
import Derived.Test.YtkojbcnafckofaaGreatPeNorm
import Derived.Test.YtkojbcnafckofaaGreatPeSFnNodes
namespace Go.Proofs.YtkojbcnafckofaaGreat.Pe.FnNodes
open Go Go.RowKit
set_option linter.unusedVariables false
set_option linter.unusedSimpArgs false
set_option maxHeartbeats 40000000
set_option maxRecDepth 100000
theorem hmix : Tryz.prog.follows .mixedOrders = true := by kernel_rfl
structure TU where
 b : (List Int)
 i : Int
 h : Int
structure Entry where
 Term : Int
 Kind : Int
 Data : ByteArray
abbrev eE (x : Entry) : List C := [.i .i64 x.Term,.i .i64 x.Kind,.s x.Data]
structure Log where
 Start : Int
 StartTerm : Int
 Entries : (List Entry)
structure Peer where
 Id : Int
 Next : Int
 Match : Int
 Sent : Int
abbrev eP (x : Peer) : List C := [.i .i64 x.Id,.i .i64 x.Next,.i .i64 x.Match,.i .i64 x.Sent]
structure Node where
 Id : Int
 Term : Int
 Vote : Int
 Role : Int
 Lead : Int
 Conf : (List Int)
 Log : Log
 Commit : Int
 Clock : Int
 Limit : Int
 Votes : (List Int)
 Peers : (List Peer)
abbrev encNode (o : Bool) (x : Node) : List C := [.i .i64 x.Id,.i .i64 x.Term,.i .i64 x.Vote,.i .i64 x.Role,.i .i64 x.Lead,.row o 3 (x.Conf.map encI),.i .i64 x.Log.Start,.i .i64 x.Log.StartTerm,.row o 40 (x.Log.Entries.map eE),.i .i64 x.Commit,.i .i64 x.Clock,.i .i64 x.Limit,.row o 3 (x.Votes.map encI),.row o 98 (x.Peers.map eP)]
structure Message where
 Kind : Int
 From : Int
 To : Int
 Term : Int
 Index : Int
 LogTerm : Int
 Commit : Int
 Ok : Bool
 Entries : (List Entry)
 Conf : (List Int)
 Data : ByteArray
 Last : Bool
abbrev eM (o : Bool) (x : Message) : List C := [.i .i64 x.Kind,.i .i64 x.From,.i .i64 x.To,.i .i64 x.Term,.i .i64 x.Index,.i .i64 x.LogTerm,.i .i64 x.Commit,.b x.Ok,.row o 40 (x.Entries.map eE),.row o 3 (x.Conf.map encI),.s x.Data,.b x.Last]
structure TR where
 n : Node
 told : (List Message)
structure TC where
 nodes : (List Node)
 net : (List Message)
structure Command where
 Op : Int
 Session : Int
 Seq : Int
 Key : ByteArray
 Value : ByteArray
 Old : ByteArray
structure TK where
 n : Node
 out : (List Message)
theorem bt3 : bytesOf Tryz.prog 3 ≤ 2048 := of_decide_eq_true (by kernel_rfl)
theorem bt5 : bytesOf Tryz.prog 5 ≤ 2048 := of_decide_eq_true (by kernel_rfl)
theorem bt30 : bytesOf Tryz.prog 30 ≤ 2048 := of_decide_eq_true (by kernel_rfl)
theorem bt32 : bytesOf Tryz.prog 32 ≤ 2048 := of_decide_eq_true (by kernel_rfl)
theorem bt40 : bytesOf Tryz.prog 40 ≤ 2048 := of_decide_eq_true (by kernel_rfl)
theorem bt98 : bytesOf Tryz.prog 98 ≤ 2048 := of_decide_eq_true (by kernel_rfl)
def laws_big (N : Nat) (x1 : (List Int)) : Option (Bool) :=
 some (decide ((x1.length : Int) > 1048576))
theorem sem_laws_big (N : Nat) (x1 : (List Int)) (r : Bool) (h : laws_big N x1 = some r) : Says Tryz.prog 6 [RO 5 (x1.map encU)] 0 [] (VB r) [] := by
 unfold laws_big at h
 refine Says.of_norm e Tryz.call6 e fun B hB => ?_
 have hm : B.m ≤ 1000 := by omega
 refine Run.so hm (.p e (.nil (.so hm (.p e (.z 5112 (Ev.lnF e) e e (.p2 e e (.nil (.ret ?_))))))))
 obtain rfl := someO h
 exact Ends.mkG (.inl e) e (gh_pk [0] [] hB e e e e) e e
def s_l01New_l1 (N : Nat) (x1 : (List Int)) : Nat → Int → Int → Option (Int)
 | 0,_,_ => none
 | m + 1,x202,x203 =>
 (if (decide (x203 < (x1.length : Int))) = true then
 (if (decide (x203 < 4000)) = true then
 (at? x1 x203).bind fun x232 =>
 (intD .and .i64 (w64 ((w64 ((w64 (x202 * 131)) + (w64 (x232)))) + 7)) 1073741823).bind fun x233 =>
 s_l01New_l1 N x1 m x233 (w64 (x203 + 1))
 else
 some x202)
 else
 some x202)
def s_l01New_l1_r (N : Nat) (x1 : (List Int)) : (List Int) → Int → Int → Option (Int)
 | [],x202,x203 =>
 some x202
 | hd :: tl,x202,x203 =>
 (if (decide (x203 < 4000)) = true then
 (some hd).bind fun x232 =>
 (intD .and .i64 (w64 ((w64 ((w64 (x202 * 131)) + (w64 (x232)))) + 7)) 1073741823).bind fun x233 =>
 s_l01New_l1_r N x1 tl x233 (w64 (x203 + 1))
 else
 some x202)
theorem s_l01New_l1_rng (N : Nat) (x1 : (List Int)) (hx : x1.length ≤ 1099511627776) : ∀ (d k m : Nat) (x202 : Int),x1.length = k + d → d < m → s_l01New_l1 N x1 m x202 (k : Int) = s_l01New_l1_r N x1 (x1.drop k) x202 (k : Int) := by
 intro d
 induction d with
 | zero =>
  intro k m x202 hd hm
  obtain ⟨m,rfl⟩ : ∃ q,m = q + 1 := ⟨m - 1,by omega⟩
  rw [s_l01New_l1,if_neg (by simp; omega),List.drop_eq_nil_of_le (by omega),s_l01New_l1_r]
 | succ d ih =>
  intro k m x202 hd hm
  obtain ⟨m,rfl⟩ : ∃ q,m = q + 1 := ⟨m - 1,by omega⟩
  have hk : k < x1.length := by omega
  rw [s_l01New_l1,if_pos (by simp; omega),List.drop_eq_getElem_cons hk,s_l01New_l1_r]
  have h1 := at_lt hk
  have h2 := w64_succ (k := k) (by omega)
  have h3 := ih (k + 1) m
  simp only [h1,h2,h3 _ (by omega) (by omega)]
theorem s_l01New_l1_eq {N : Nat} (x1 : (List Int)) (hx : x1.length ≤ 1099511627776) (hN : x1.length < N) (x202 : Int) : s_l01New_l1 N x1 N x202 0 = s_l01New_l1_r N x1 x1 x202 0 := s_l01New_l1_rng N x1 hx x1.length 0 N x202 (by omega) hN
def s_l01New (N : Nat) (x1 : (List Int)) : Option (TU) :=
 joinP (fun (v200 : Int) =>
 some (TU.mk x1 0 v200)) fun j200 =>
 (s_l01New_l1 N x1 N (w64 (10301 + (x1.length : Int))) 0).bind (fun v218 => j200 v218)
theorem sem_s_l01New (N : Nat) (x1 : (List Int)) (r : TU) (h : s_l01New N x1 = some r) : Says Tryz.prog 16 [RO 5 (x1.map encU)] 0 [] (.ptr 0 0) [(0,.box [RO 5 (r.b.map encU),VI r.i,VI r.h])] := by
 unfold s_l01New at h
 refine Says.of_norm e Tryz.call16 e fun B hB => ?_
 have hm : B.m ≤ 1000 := by omega
 refine Run.so hm (.p e (.nil (.so hm (.p e (.z 5112 (Ev.lnF e) e e (.p2 e e (.nil (.seqO h (fun v200 => [(0,RO 5 (x1.map encU)),(3,VI v200)]) (fun (v200 : Int) => []) (fun h => ?_) (fun v200 h => ?_)))))))))
 ·refine Run.so hm (.p e (.nil (.block ?_)))
  obtain ⟨res218,h,hk218⟩ := bindO h
  refine Run.loop (n := N) (fun m218 fr σ => ∃ (x202 : Int),∃ (x203 : Int),s_l01New_l1 N x1 m218 x202 x203 = some res218 ∧ fr = [(0,RO 5 (x1.map encU)),(3,VI x202),(4,VI x203)] ∧ σ = []) (gh_pk [0,3,4] [] hB e e e e) ⟨_,_,h,e,e⟩ ?_
  rintro m218 fr σ ⟨x202,x203,h,rfl,rfl⟩
  obtain _ | m218 := m218
  ·rw [s_l01New_l1] at h; cases h
  rw [s_l01New_l1] at h
  refine Run.seq (.so hm (.p2 e e (.z 13320 (Ev.lnF e) e e (.p2 e e (.askO (x := .t 12) e h (fun g224 h => ?_) (fun g224 h => ?_))))))
  ·refine Ops.gp e g224 e (.gp e g224 e (.z 13400 (.pkT e g224 e) e e (.nil (.condO e h (fun g225 h => ?_) (fun g225 h => ?_)))))
   ·refine Run.skip (.seq (.block (.ops hm (.p3 e e e (.p e ?_)))))
    obtain ⟨x232,hx232,h⟩ := bindO h
    refine Ops.z 21544 (Ev.iaF e e hx232) e e (.p3 e e e (.p e ?_))
    obtain ⟨x233,hx233,h⟩ := bindO h
    exact Ops.z 21624 (.bin e e hx233) e e (.p e (.nil (.ops hm (.p3 e e e (.nil (⟨m218,Nat.lt_succ_self m218,_,_,(gh_pk [0,3,4] [] hB e e e e),_,_,h,e,e⟩))))))
   ·refine Run.exit ?_
    obtain rfl := someO h
    have h := hk218
    exact ⟨_,_,(gh_pk [0,3] [] hB e e e e),_,h,e,e⟩
  ·refine Ops.gn e g224 (.gn e g224 (.z 13400 (.pkF e g224 e) e e (.nil (.condF e e (.exit ?_)))))
   obtain rfl := someO h
   have h := hk218
   exact ⟨_,_,(gh_pk [0,3] [] hB e e e e),_,h,e,e⟩
 ·refine Run.so hm (.p2 e e (.z 25608 (.bd e e) e e (.z 25624 (.bx e e) e e (.p e (.nil (.ret ?_))))))
  obtain rfl := someO h
  exact Ends.mkG (.inl e) e (gh_pk [0] [25624] hB e e e e) e e
def s_l16Steps (N : Nat) (x1 : (List Int)) : Option (Int) :=
 (intD .quo .i64 (x1.length : Int) 4).bind fun x109 =>
 (if (decide ((w64 (10 + x109)) > 70)) = true then
 some 70
 else
 some (w64 (10 + x109)))
theorem sem_s_l16Steps (N : Nat) (x1 : (List Int)) (r : Int) (h : s_l16Steps N x1 = some r) : Says Tryz.prog 18 [RO 5 (x1.map encU)] 0 [] (VI r) [] := by
 unfold s_l16Steps at h
 refine Says.of_norm e Tryz.call18 e fun B hB => ?_
 have hm : B.m ≤ 1000 := by omega
 refine Run.so hm (.p e (.nil (.so hm (.p e (.z 5112 (Ev.lnF e) e e ?_)))))
 obtain ⟨x109,hx109,h⟩ := bindO h
 refine Ops.z 5128 (.bin e e hx109) e e (.p2 e e (.nil (.seq (.so hm (.p2 e e (.nil (.condO e h (fun g111 h => ?_) (fun g111 h => ?_))))))))
 ·refine Run.so hm (.p e (.nil (.ret ?_)))
  obtain rfl := someO h
  exact Ends.mkG (.inl e) e (gh_pk [0] [] hB e e e e) e e
 ·refine Run.skip (.so hm (.p2 e e (.nil (.ret ?_))))
  obtain rfl := someO h
  exact Ends.mkG (.inl e) e (gh_pk [0] [] hB e e e e) e e
def s_l01Byte (N : Nat) (x1 : TU) : Option (Int × TU) :=
 (intSh .shr .i64 (w64 ((w64 (x1.h * 6364136223846793005)) + 1442695040888963407)) 33).bind fun x147 =>
 (intSh .shr .i64 (w64 ((w64 (x1.h * 6364136223846793005)) + 1442695040888963407)) 45).bind fun x148 =>
 (intD .xor .i64 x147 x148).bind fun x149 =>
 (intD .and .i64 x149 255).bind fun x150 =>
 joinP (fun (v160 : Int × Int) =>
 some (v160.1,(TU.mk x1.b v160.2 (w64 ((w64 (x1.h * 6364136223846793005)) + 1442695040888963407))))) fun j160 =>
 (if (decide (x1.i < (x1.b.length : Int))) = true then
 (at? x1.b x1.i).bind fun x168 =>
 (intD .and .i64 (w64 (x150 + (w64 (x168)))) 255).bind fun x169 =>
 j160 (x169,w64 (x1.i + 1))
 else
 j160 (x150,x1.i))
theorem sem_s_l01Byte (N : Nat) (x1 : TU) (r : Int × TU) (h : s_l01Byte N x1 = some r) : Says Tryz.prog 50 [.ptr 0 0] 1 [(0,.box [RO 5 (x1.b.map encU),VI x1.i,VI x1.h])] (VI r.1) [(0,.box [RO 5 (r.2.b.map encU),VI r.2.i,VI r.2.h])] := by
 unfold s_l01Byte at h
 refine Says.of_norm e Tryz.call50 e fun B hB => ?_
 have hm : B.m ≤ 1000 := by omega
 refine Run.so hm (.p e (.nil (.so hm (.p3 e e e (.p3 e e e (.p3 e e e (.y 5240 (.sto e e e e e e) e e (.nil (.seq (.draw hm hmix (.p e (.p e (.p e (.p e ?_))))))))))))))
 obtain ⟨x147,hx147,h⟩ := bindO h
 refine OpsD.z 9256 (.sh e e hx147) e e (.p e (.p e (.p e (.p e ?_))))
 obtain ⟨x148,hx148,h⟩ := bindO h
 refine OpsD.z 9336 (.sh e e hx148) e e ?_
 obtain ⟨x149,hx149,h⟩ := bindO h
 refine OpsD.z 9352 (.bin e e hx149) e e ?_
 obtain ⟨x150,hx150,h⟩ := bindO h
 refine OpsD.z 9368 (.bin e e hx150) e e (.p e (.nil ⟨by kernel_rfl,?_⟩))
 refine Run.seqO h (fun v160 => [(3,VI v160.1)]) (fun (v160 : Int × Int) => [(0,.box [RO 5 (x1.b.map encU),VI v160.2,VI (w64 ((w64 (x1.h * 6364136223846793005)) + 1442695040888963407))])]) (fun h => ?_) (fun v160 h => ?_)
 ·refine Run.seq (.draw hm hmix (.p e (.p e (.p e (.p e (.p e (.p e (.p e (.p e (.z 13416 (Ev.lnF e) e e (.p e (.nil ⟨by kernel_rfl,?_⟩))))))))))))
  refine Run.condO e h (fun g161 h => ?_) (fun g161 h => ?_)
  ·refine Run.seq (.draw hm hmix (.p e (.p e (.p e (.p e (.p e (.p e (.p e (.p e (.p e ?_))))))))))
   obtain ⟨x168,hx168,h⟩ := bindO h
   refine OpsD.z 17528 (Ev.iaF e e hx168) e e (.p e (.p e (.p e ?_)))
   obtain ⟨x169,hx169,h⟩ := bindO h
   refine OpsD.z 17592 (.bin e e hx169) e e (.p e (.nil ⟨by kernel_rfl,?_⟩))
   exact Run.ops hm (.p3 e e e (.p3 e e e (.p2 e e (.y 21608 (.sto e e e e e e) e e (.nil (⟨_,_,(gh_pk [3] [0] hB e e e e),_,h,e,e⟩))))))
  ·exact Run.skip (⟨_,_,(gh_pk [3] [0] hB e e e e),_,h,e,e⟩)
 ·refine Run.so hm (.p2 e e (.nil (.ret ?_)))
  obtain rfl := someO h
  exact Ends.mkG (.inl e) e (gh_pk [0] [0] hB e e e e) e e
def s_l01Below (N : Nat) (x1 : TU) (x2 : Int) : Option (Int × TU) :=
 (if (decide (x2 ≤ 0)) = true then
 some (0,x1)
 else
 (if (decide (x2 ≤ 256)) = true then
 (s_l01Byte N x1).bind fun y140 =>
 (intD .rem .i64 y140.1 x2).bind fun x141 =>
 some (x141,y140.2)
 else
 (s_l01Byte N x1).bind fun y145 =>
 (s_l01Byte N y145.2).bind fun y149 =>
 (s_l01Byte N y149.2).bind fun y153 =>
 (s_l01Byte N y153.2).bind fun y157 =>
 (intD .rem .i64 (w64 ((w64 ((w64 ((w64 (y145.1 * 16777216)) + (w64 (y149.1 * 65536)))) + (w64 (y153.1 * 256)))) + y157.1)) x2).bind fun x159 =>
 some (x159,y157.2)))
theorem sem_s_l01Below (N : Nat) (x1 : TU) (x2 : Int) (r : Int × TU) (h : s_l01Below N x1 x2 = some r) : Says Tryz.prog 19 [.ptr 0 0,VI x2] 1 [(0,.box [RO 5 (x1.b.map encU),VI x1.i,VI x1.h])] (VI r.1) [(0,.box [RO 5 (r.2.b.map encU),VI r.2.i,VI r.2.h])] := by
 unfold s_l01Below at h
 refine Says.of_norm e Tryz.call19 e fun B hB => ?_
 have hm : B.m ≤ 1000 := by omega
 refine Run.so hm (.p e (.nil (.seq (.so hm (.p2 e e (.nil (.condO e h (fun g131 h => ?_) (fun g131 h => ?_))))))))
 ·refine Run.so hm (.p e (.nil (.ret ?_)))
  obtain rfl := someO h
  exact Ends.mkG (.inl e) e (gh_pk [0] [0] hB e e e e) e e
 ·refine Run.skip (.seq (.so hm (.p2 e e (.nil (.condO e h (fun g137 h => ?_) (fun g137 h => ?_))))))
  ·refine Run.so hm (.p e ?_)
   obtain ⟨y140,hy140,h⟩ := bindO h
   refine Ops.z 17400 (Ev.call [0] [] 0 (sem_s_l01Byte _ _ _ hy140) e e (.cons (.ptr e) .nil) e (.inl e) e e) e e (.p e ?_)
   obtain ⟨x141,hx141,h⟩ := bindO h
   refine Ops.z 17432 (.bin e e hx141) e e (.p e (.nil (.ret ?_)))
   obtain rfl := someO h
   exact Ends.mkG (.inl e) e (gh_pk [0] [0] hB e e e e) e e
  ·refine Run.skip (.so hm (.p e ?_))
   obtain ⟨y145,hy145,h⟩ := bindO h
   refine Ops.z 21496 (Ev.call [0] [] 0 (sem_s_l01Byte _ _ _ hy145) e e (.cons (.ptr e) .nil) e (.inl e) e e) e e (.p e (.nil (.so hm (.p e ?_))))
   obtain ⟨y149,hy149,h⟩ := bindO h
   refine Ops.z 25592 (Ev.call [0] [] 0 (sem_s_l01Byte _ _ _ hy149) e e (.cons (.ptr e) .nil) e (.inl e) e e) e e (.p e (.nil (.so hm (.p e ?_))))
   obtain ⟨y153,hy153,h⟩ := bindO h
   refine Ops.z 29688 (Ev.call [0] [] 0 (sem_s_l01Byte _ _ _ hy153) e e (.cons (.ptr e) .nil) e (.inl e) e e) e e (.p e (.nil (.so hm (.p e ?_))))
   obtain ⟨y157,hy157,h⟩ := bindO h
   refine Ops.z 33784 (Ev.call [0] [] 0 (sem_s_l01Byte _ _ _ hy157) e e (.cons (.ptr e) .nil) e (.inl e) e e) e e (.p e (.nil (.so hm (.p3 e e e (.p3 e e e (.p3 e e e (.p2 e e ?_)))))))
   obtain ⟨x159,hx159,h⟩ := bindO h
   refine Ops.z 38040 (.bin e e hx159) e e (.p e (.nil (.ret ?_)))
   obtain rfl := someO h
   exact Ends.mkG (.inl e) e (gh_pk [0] [0] hB e e e e) e e
def s_l01Once (N : Nat) (x1 : TU) (x2 : Int) : Option (Bool × TU) :=
 (s_l01Below N x1 x2).bind fun y103 =>
 some ((y103.1 == 0),y103.2)
theorem sem_s_l01Once (N : Nat) (x1 : TU) (x2 : Int) (r : Bool × TU) (h : s_l01Once N x1 x2 = some r) : Says Tryz.prog 21 [.ptr 0 0,VI x2] 1 [(0,.box [RO 5 (x1.b.map encU),VI x1.i,VI x1.h])] (VB r.1) [(0,.box [RO 5 (r.2.b.map encU),VI r.2.i,VI r.2.h])] := by
 unfold s_l01Once at h
 refine Says.of_norm e Tryz.call21 e fun B hB => ?_
 have hm : B.m ≤ 1000 := by omega
 refine Run.so hm (.p e (.nil (.so hm (.p2 e e ?_))))
 obtain ⟨y103,hy103,h⟩ := bindO h
 refine Ops.z 5128 (Ev.call [0] [] 0 (sem_s_l01Below _ _ _ _ hy103) e e (.cons (.ptr e) (.d1 .nil)) e (.inl e) e e) e e (.p2 e e (.nil (.ret ?_)))
 obtain rfl := someO h
 exact Ends.mkG (.inl e) e (gh_pk [0] [0] hB e e e e) e e
def s_l07Conf_l1 (N : Nat) : Nat → Int → (List Int) → Int → Int → (List Int) → Option ((List Int) × Int × Int × (List Int))
 | 0,_,_,_,_,_ => none
 | m + 1,x208,x209,x210,x211,x212 =>
 (if (decide (x208 ≤ 4)) = true then
 joinP (fun (v235 : (List Int) × Int × Int × (List Int)) =>
 s_l07Conf_l1 N m (w64 (x208 + 1)) v235.1 v235.2.1 v235.2.2.1 v235.2.2.2) fun j235 =>
 (s_l01Once N (TU.mk x209 x210 x211) 2).bind fun y237 =>
 (if y237.1 = true then
 (cat? x212 ([x208] : List Int)).bind fun x240 =>
 j235 (y237.2.b,y237.2.i,y237.2.h,x240)
 else
 j235 (y237.2.b,y237.2.i,y237.2.h,x212))
 else
 some (x209,x210,x211,x212))
def s_l07Conf (N : Nat) (x1 : TU) : Option ((List Int) × TU) :=
 joinP (fun (v207 : (List Int) × Int × Int × (List Int)) =>
 joinP (fun (v244 : (List Int)) =>
 some (v244,(TU.mk v207.1 v207.2.1 v207.2.2.1))) fun j244 =>
 (if (((v207.2.2.2.length : Nat) : Int) == 0) = true then
 (cat? v207.2.2.2 ([1] : List Int)).bind fun x247 =>
 j244 x247
 else
 j244 v207.2.2.2)) fun j207 =>
 (s_l07Conf_l1 N N 1 x1.b x1.i x1.h ([] : List Int)).bind (fun v226 => j207 (v226.1,v226.2.1,v226.2.2.1,v226.2.2.2))
theorem sem_s_l07Conf (N : Nat) (x1 : TU) (r : (List Int) × TU) (h : s_l07Conf N x1 = some r) : Says Tryz.prog 51 [.ptr 0 0] 1 [(0,.box [RO 5 (x1.b.map encU),VI x1.i,VI x1.h])] (.sl 1 3 0 r.1.length) [(0,.box [RO 5 (r.2.b.map encU),VI r.2.i,VI r.2.h]),(1,.vec 3 (r.1.map encI))] := by
 unfold s_l07Conf at h
 refine Says.of_norm e Tryz.call51 e fun B hB => ?_
 have hm : B.m ≤ 1000 := by omega
 refine Run.so hm (.p e (.nil (.so hm (.z 5096 (Ev.bsW (ys := ([] : List Int)) (f := encI) e .nil e e e e e) e e (.p e (.nil (.seqO h (fun v207 => [(3,.sl 1 3 0 v207.2.2.2.length)]) (fun (v207 : (List Int) × Int × Int × (List Int)) => [(0,.box [RO 5 (v207.1.map encU),VI v207.2.1,VI v207.2.2.1]),(1,.vec 3 (v207.2.2.2.map encI))]) (fun h => ?_) (fun v207 h => ?_))))))))
 ·refine Run.so hm (.p e (.nil (.block ?_)))
  obtain ⟨res226,h,hk226⟩ := bindO h
  refine Run.loop (n := N) (fun m226 fr σ => ∃ (x208 : Int),∃ (x209 : (List Int)),∃ (x210 : Int),∃ (x211 : Int),∃ (x212 : (List Int)),s_l07Conf_l1 N m226 x208 x209 x210 x211 x212 = some res226 ∧ fr = [(0,.ptr 0 0),(3,.sl 1 3 0 x212.length),(4,VI x208)] ∧ σ = [(0,.box [RO 5 (x209.map encU),VI x210,VI x211]),(1,.vec 3 (x212.map encI))]) (gh_pk [0,3,4] [0,5096] hB e e e e) ⟨_,_,_,_,_,h,e,e⟩ ?_
  rintro m226 fr σ ⟨x208,x209,x210,x211,x212,h,rfl,rfl⟩
  obtain _ | m226 := m226
  ·rw [s_l07Conf_l1] at h; cases h
  rw [s_l07Conf_l1] at h
  refine Run.seq (.so hm (.p2 e e (.nil (.condO e h (fun g229 h => ?_) (fun g229 h => ?_)))))
  ·refine Run.skip (.seqO h (fun v235 => [(0,.ptr 0 0),(3,.sl 1 3 0 v235.2.2.2.length),(4,VI x208)]) (fun (v235 : (List Int) × Int × Int × (List Int)) => [(0,.box [RO 5 (v235.1.map encU),VI v235.2.1,VI v235.2.2.1]),(1,.vec 3 (v235.2.2.2.map encI))]) (fun h => ?_) (fun v235 h => ?_))
   ·refine Run.block (.so hm (.p e ?_))
    obtain ⟨y237,hy237,h⟩ := bindO h
    refine Ops.z 21496 (Ev.call [0] [] 0 (sem_s_l01Once _ _ _ _ hy237) e e (.cons (.ptr e) (.d1 .nil)) e (.inl e) e e) e e (.nil (.condO e h (fun g238 h => ?_) (fun g238 h => ?_)))
    ·refine Run.ops hm (.p2 e e (.z 25608 (Ev.bsW (ys := ([x208] : List Int)) (f := encI) e (.d1 .nil) e e e e e) e e ?_))
     obtain ⟨x240,hx240,h⟩ := bindO h
     exact Ops.z 25624 (Ev.apW (f := encI) (ontoW e e e) (addsW e e e (fun _ => e)) e bt3 e hx240) e e (.p e (.nil (⟨_,_,(gh_pk [0,3,4] [0,25624] hB e e e e),_,h,e,e⟩)))
    ·exact Run.skip (⟨_,_,(gh_pk [0,3,4] [0,1] hB e e e e),_,h,e,e⟩)
   ·exact Run.ops hm (.p3 e e e (.nil (⟨m226,Nat.lt_succ_self m226,_,_,(gh_pk [0,3,4] [0,1] hB e e e e),_,_,_,_,_,h,e,e⟩)))
  ·refine Run.exit ?_
   obtain rfl := someO h
   have h := hk226
   exact ⟨_,_,(gh_pk [3] [0,1] hB e e e e),_,h,e,e⟩
 ·refine Run.seqO h (fun v244 => [(3,.sl 1 3 0 v244.length)]) (fun (v244 : (List Int)) => [(0,.box [RO 5 (v207.1.map encU),VI v207.2.1,VI v207.2.2.1]),(1,.vec 3 (v244.map encI))]) (fun h => ?_) (fun v244 h => ?_)
  ·refine Run.so hm (.p3 e e e (.nil (.condO e h (fun g245 h => ?_) (fun g245 h => ?_))))
   ·refine Run.ops hm (.p e (.z 33784 (Ev.bsW (ys := ([1] : List Int)) (f := encI) e (.d1 .nil) e e e e e) e e ?_))
    obtain ⟨x247,hx247,h⟩ := bindO h
    exact Ops.z 33800 (Ev.apW (f := encI) (ontoW e e e) (addsW e e e (fun _ => e)) e bt3 e hx247) e e (.p e (.nil (⟨_,_,(gh_pk [3] [0,33800] hB e e e e),_,h,e,e⟩)))
   ·exact Run.skip (⟨_,_,(gh_pk [3] [0,1] hB e e e e),_,h,e,e⟩)
  ·refine Run.so hm (.p2 e e (.nil (.ret ?_)))
   obtain rfl := someO h
   exact Ends.mkG (.inl e) e (gh_pk [0] [0,1] hB e e e e) e e
def s_l01In (N : Nat) (x1 : Int) (x2 : Int) (x3 : Int) : Option (Bool) :=
 (if (decide (x1 ≥ x2)) = true then
 some (decide (x1 ≤ x3))
 else
 some false)
theorem sem_s_l01In (N : Nat) (x1 : Int) (x2 : Int) (x3 : Int) (r : Bool) (h : s_l01In N x1 x2 x3 = some r) : Says Tryz.prog 69 [VI x1,VI x2,VI x3] 0 [] (VB r) [] := by
 unfold s_l01In at h
 refine Says.of_norm e Tryz.call69 e fun B hB => ?_
 have hm : B.m ≤ 1000 := by omega
 refine Run.so hm (.p e (.nil (.so hm (.p3 e e e (.p e (.askO (x := .t 10) e h (fun g103 h => ?_) (fun g103 h => ?_)))))))
 ·refine Ops.gp e g103 e (.gp e g103 e (.gp e g103 e (.z 5208 (.pkT e g103 e) e e (.p e (.nil (.ret ?_))))))
  obtain rfl := someO h
  exact Ends.mkG (.inl e) e (gh_pk [0] [] hB e e e e) e e
 ·refine Ops.gn e g103 (.gn e g103 (.gn e g103 (.z 5208 (.pkF e g103 e) e e (.p e (.nil (.ret ?_))))))
  obtain rfl := someO h
  exact Ends.mkG (.inl e) e (gh_pk [0] [] hB e e e e) e e
def s_l07Rise_l1 (N : Nat) (x1 : (List Int)) (x2 : Int) (x3 : Int) : Nat → Int → Option ((Bool) ⊕ (Unit))
 | 0,_ => none
 | m + 1,x300 =>
 (if (decide (x300 < (x1.length : Int))) = true then
 joinP (fun (v348 : Unit) =>
 s_l07Rise_l1 N x1 x2 x3 m (w64 (x300 + 1))) fun j348 =>
 (at? x1 x300).bind fun x355 =>
 (s_l01In N x355 x2 x3).bind fun y356 =>
 (if (!y356) = true then
 some (Sum.inl false)
 else
 (if (decide (x300 > 0)) = true then
 (at? x1 (w64 (x300 - 1))).bind fun x359 =>
 (at? x1 x300).bind fun x360 =>
 (if (decide (x359 ≥ x360)) = true then
 some (Sum.inl false)
 else
 j348 ())
 else
 j348 ()))
 else
 some (Sum.inr ()))
def s_l07Rise_l1_r (N : Nat) (x1 : (List Int)) (x2 : Int) (x3 : Int) : (List Int) → Int → Option ((Bool) ⊕ (Unit))
 | [],x300 =>
 some (Sum.inr ())
 | hd :: tl,x300 =>
 joinP (fun (v348 : Unit) =>
 s_l07Rise_l1_r N x1 x2 x3 tl (w64 (x300 + 1))) fun j348 =>
 (some hd).bind fun x355 =>
 (s_l01In N x355 x2 x3).bind fun y356 =>
 (if (!y356) = true then
 some (Sum.inl false)
 else
 (if (decide (x300 > 0)) = true then
 (at? x1 (w64 (x300 - 1))).bind fun x359 =>
 (some hd).bind fun x360 =>
 (if (decide (x359 ≥ x360)) = true then
 some (Sum.inl false)
 else
 j348 ())
 else
 j348 ()))
theorem s_l07Rise_l1_rng (N : Nat) (x1 : (List Int)) (x2 : Int) (x3 : Int) (hx : x1.length ≤ 1099511627776) : ∀ (d k m : Nat),x1.length = k + d → d < m → s_l07Rise_l1 N x1 x2 x3 m (k : Int) = s_l07Rise_l1_r N x1 x2 x3 (x1.drop k) (k : Int) := by
 intro d
 induction d with
 | zero =>
  intro k m hd hm
  obtain ⟨m,rfl⟩ : ∃ q,m = q + 1 := ⟨m - 1,by omega⟩
  rw [s_l07Rise_l1,if_neg (by simp; omega),List.drop_eq_nil_of_le (by omega),s_l07Rise_l1_r]
 | succ d ih =>
  intro k m hd hm
  obtain ⟨m,rfl⟩ : ∃ q,m = q + 1 := ⟨m - 1,by omega⟩
  have hk : k < x1.length := by omega
  rw [s_l07Rise_l1,if_pos (by simp; omega),List.drop_eq_getElem_cons hk,s_l07Rise_l1_r]
  have h1 := at_lt hk
  have h2 := w64_succ (k := k) (by omega)
  have h3 := ih (k + 1) m
  simp only [h1,h2,h3 (by omega) (by omega)]
theorem s_l07Rise_l1_eq {N : Nat} (x1 : (List Int)) (x2 : Int) (x3 : Int) (hx : x1.length ≤ 1099511627776) (hN : x1.length < N) : s_l07Rise_l1 N x1 x2 x3 N 0 = s_l07Rise_l1_r N x1 x2 x3 x1 0 := s_l07Rise_l1_rng N x1 x2 x3 hx x1.length 0 N (by omega) hN
def s_l07Rise (N : Nat) (x1 : (List Int)) (x2 : Int) (x3 : Int) : Option (Bool) :=
 joinP (fun (v296 : Unit) =>
 some true) fun j296 =>
 (s_l07Rise_l1 N x1 x2 x3 N 0).bind (Sum.elim (fun v330 => some v330) (fun (v331 : Unit) => j296 ()))
theorem sem_s_l07Rise (N : Nat) (x1 : (List Int)) (x2 : Int) (x3 : Int) (r : Bool) (h : s_l07Rise N x1 x2 x3 = some r) : Says Tryz.prog 72 [RO 3 (x1.map encI),VI x2,VI x3] 0 [] (VB r) [] := by
 unfold s_l07Rise at h
 refine Says.of_norm e Tryz.call72 e fun B hB => ?_
 have hm : B.m ≤ 1000 := by omega
 refine Run.so hm (.p e (.nil (.seqO h (fun v296 => []) (fun (v296 : Unit) => []) (fun h => ?_) (fun v296 h => ?_))))
 ·refine Run.so hm (.p e (.nil (.block ?_)))
  obtain ⟨res331,h,hk331⟩ := bindO h
  refine Run.loop (n := N) (fun m331 fr σ => ∃ (x300 : Int),s_l07Rise_l1 N x1 x2 x3 m331 x300 = some res331 ∧ fr = [(0,RO 3 (x1.map encI)),(1,VI x2),(2,VI x3),(7,VI x300)] ∧ σ = []) (gh_pk [0,1,2,7] [] hB e e e e) ⟨_,h,e,e⟩ ?_
  rintro m331 fr σ ⟨x300,h,rfl,rfl⟩
  obtain _ | m331 := m331
  ·rw [s_l07Rise_l1] at h; cases h
  rw [s_l07Rise_l1] at h
  refine Run.seq (.so hm (.p2 e e (.z 9224 (Ev.lnF e) e e (.p e (.nil (.condO e h (fun g334 h => ?_) (fun g334 h => ?_)))))))
  ·refine Run.skip (.seqO h (fun v348 => [(0,RO 3 (x1.map encI)),(1,VI x2),(2,VI x3),(7,VI x300)]) (fun (v348 : Unit) => []) (fun h => ?_) (fun v348 h => ?_))
   ·refine Run.block (.seq (.draw hm hmix (.p e (.p e ?_))))
    obtain ⟨x355,hx355,h⟩ := bindO h
    refine OpsD.z 17416 (Ev.iaF e e hx355) e e (.p e (.p e (.p e ?_)))
    obtain ⟨y356,hy356,h⟩ := bindO h
    refine OpsD.z 17480 (Ev.call [] [] 0 (sem_s_l01In _ _ _ _ _ hy356) e e (.d2 (.d1 .nil)) e (.inl e) e e) e e (.p e (.p e (.askO (x := .t 22) e h (fun g357 h => ?_) (fun g357 h => ?_))))
    ·refine OpsD.gn e g357 (.gn e g357 (.gn e g357 (.gu e (.gu e (.gu e (.gu e (.gu e (.gu e (.gu e (.gu e (.gu e (.gu e (.gn e g357 (.z 17752 (.pkT e g357 e) e e (.nil ⟨by kernel_rfl,?_⟩)))))))))))))))
     refine Run.condT e e (.so hm (.p e (.nil (.ret ?_))))
     obtain rfl := someO h
     have h := hk331
     replace h := inlO h
     obtain rfl := someO h
     exact Ends.mkG (.inl e) e (gh_pk [0] [] hB e e e e) e e
    ·refine OpsD.gp e g357 e (.gp e g357 e (.gp e g357 e (.askO (x := .t 25) e h (fun g358 h => ?_) (fun g358 h => ?_))))
     ·refine OpsD.gp e g358 e (.gp e g358 e (.gp e g358 e ?_))
      obtain ⟨x359,hx359,h⟩ := bindO h
      refine OpsD.gs (s := 17624) e g358 (Ev.iaF e e hx359) e e (.gp e g358 e (.gp e g358 e (.gp e g358 e ?_)))
      obtain ⟨x360,hx360,h⟩ := bindO h
      refine OpsD.gs (s := 17688) e g358 (Ev.iaF e e hx360) e e (.gp e g358 e (.gp e g358 e (.gs (s := 17736) e g357 (.pkT e g358 e) e e (.z 17752 (.pkF e g357 e) e e (.nil ⟨by kernel_rfl,?_⟩)))))
      refine Run.condO e h (fun g361 h => ?_) (fun g361 h => ?_)
      ·refine Run.so hm (.p e (.nil (.ret ?_)))
       obtain rfl := someO h
       have h := hk331
       replace h := inlO h
       obtain rfl := someO h
       exact Ends.mkG (.inl e) e (gh_pk [0] [] hB e e e e) e e
      ·exact Run.skip (⟨_,_,(gh_pk [0,1,2,7] [] hB e e e e),(),h,e,e⟩)
     ·refine OpsD.gn e g358 (.gn e g358 (.gn e g358 (.gn e g358 (.gn e g358 (.gn e g358 (.gn e g358 (.gn e g358 (.gn e g358 (.gn e g358 (.gs (s := 17736) e g357 (.pkF e g358 e) e e (.z 17752 (.pkF e g357 e) e e (.nil ⟨by kernel_rfl,?_⟩))))))))))))
      exact Run.condF e e (.skip (⟨_,_,(gh_pk [0,1,2,7] [] hB e e e e),(),h,e,e⟩))
   ·exact Run.ops hm (.p3 e e e (.nil (⟨m331,Nat.lt_succ_self m331,_,_,(gh_pk [0,1,2,7] [] hB e e e e),_,h,e,e⟩)))
  ·refine Run.exit ?_
   obtain rfl := someO h
   have h := hk331
   replace h := inrO h
   exact ⟨_,_,(gh_pk [] [] hB e e e e),(),h,e,e⟩
 ·refine Run.so hm (.p e (.nil (.ret ?_)))
  obtain rfl := someO h
  exact Ends.mkG (.inl e) e (gh_pk [0] [] hB e e e e) e e
def s_ConfOk (N : Nat) (x1 : (List Int)) : Option (Bool) :=
 (s_l01In N (x1.length : Int) 1 4).bind fun y109 =>
 (if y109 = true then
 (s_l07Rise N x1 1 4).bind fun y111 =>
 some y111
 else
 some false)
theorem sem_s_ConfOk (N : Nat) (x1 : (List Int)) (r : Bool) (h : s_ConfOk N x1 = some r) : Says Tryz.prog 70 [RO 3 (x1.map encI)] 0 [] (VB r) [] := by
 unfold s_ConfOk at h
 refine Says.of_norm e Tryz.call70 e fun B hB => ?_
 have hm : B.m ≤ 1000 := by omega
 refine Run.so hm (.p e (.nil (.so hm (.p e (.z 5112 (Ev.lnF e) e e ?_)))))
 obtain ⟨y109,hy109,h⟩ := bindO h
 refine Ops.z 5128 (Ev.call [] [] 0 (sem_s_l01In _ _ _ _ _ hy109) e e (.d2 (.d1 .nil)) e (.inl e) e e) e e (.p e (.askO (x := .t 6) e h (fun g110 h => ?_) (fun g110 h => ?_)))
 ·refine Ops.gp e g110 e ?_
  obtain ⟨y111,hy111,h⟩ := bindO h
  refine Ops.gs (s := 5176) e g110 (Ev.call [] [] 0 (sem_s_l07Rise _ _ _ _ _ hy111) e e (.d2 (.d1 .nil)) e (.inl e) e e) e e (.z 5192 (.pkT e g110 e) e e (.p e (.nil (.ret ?_))))
  obtain rfl := someO h
  exact Ends.mkG (.inl e) e (gh_pk [0] [] hB e e e e) e e
 ·refine Ops.gn e g110 (.gn e g110 (.z 5192 (.pkF e g110 e) e e (.p e (.nil (.ret ?_)))))
  obtain rfl := someO h
  exact Ends.mkG (.inl e) e (gh_pk [0] [] hB e e e e) e e
def s_ReadConf_l1 (N : Nat) (x1 : ByteArray) : Nat → Int → (List Int) → Option ((List Int))
 | 0,_,_ => none
 | m + 1,x212,x213 =>
 (if (decide (x212 < (x1.size : Int))) = true then
 (if (decide (x212 ≤ 4)) = true then
 (sat? x1 x212).bind fun x242 =>
 (cat? x213 ([w64 (x242)] : List Int)).bind fun x243 =>
 s_ReadConf_l1 N x1 m (w64 (x212 + 1)) x243
 else
 some x213)
 else
 some x213)
def s_ReadConf (N : Nat) (x1 : ByteArray) : Option ((List Int) × Bool) :=
 joinP (fun (v210 : (List Int)) =>
 (if (((v210.length : Nat) : Int) != (x1.size : Int)) = true then
 some (([] : List Int),false)
 else
 (s_ConfOk N v210).bind fun y252 =>
 (if (!y252) = true then
 some (([] : List Int),false)
 else
 some (v210,true)))) fun j210 =>
 (s_ReadConf_l1 N x1 N 0 ([] : List Int)).bind (fun v228 => j210 v228)
theorem sem_s_ReadConf (N : Nat) (x1 : ByteArray) (r : (List Int) × Bool) (h : s_ReadConf N x1 = some r) : Says Tryz.prog 97 [VS x1] 0 [] (.tup [.sl 0 3 0 r.1.length,VB r.2]) [(0,.vec 3 (r.1.map encI))] := by
 unfold s_ReadConf at h
 refine Says.of_norm e Tryz.call97 e fun B hB => ?_
 have hm : B.m ≤ 1000 := by omega
 refine Run.so hm (.p2 e e (.nil (.so hm (.z 5096 (Ev.bsW (ys := ([] : List Int)) (f := encI) e .nil e e e e e) e e (.p e (.nil (.seqO h (fun v210 => [(0,VS x1),(4,.sl 0 3 0 v210.length)]) (fun (v210 : (List Int)) => [(0,.vec 3 (v210.map encI))]) (fun h => ?_) (fun v210 h => ?_))))))))
 ·refine Run.so hm (.p e (.nil (.block ?_)))
  obtain ⟨res228,h,hk228⟩ := bindO h
  refine Run.loop (n := N) (fun m228 fr σ => ∃ (x212 : Int),∃ (x213 : (List Int)),s_ReadConf_l1 N x1 m228 x212 x213 = some res228 ∧ fr = [(0,VS x1),(4,.sl 0 3 0 x213.length),(5,VI x212)] ∧ σ = [(0,.vec 3 (x213.map encI))]) (gh_pk [0,4,5] [5096] hB e e e e) ⟨_,_,h,e,e⟩ ?_
  rintro m228 fr σ ⟨x212,x213,h,rfl,rfl⟩
  obtain _ | m228 := m228
  ·rw [s_ReadConf_l1] at h; cases h
  rw [s_ReadConf_l1] at h
  refine Run.seq (.so hm (.p3 e e e (.p2 e e (.askO (x := .t 11) e h (fun g234 h => ?_) (fun g234 h => ?_)))))
  ·refine Ops.gp e g234 e (.gp e g234 e (.z 13400 (.pkT e g234 e) e e (.nil (.condO e h (fun g235 h => ?_) (fun g235 h => ?_)))))
   ·refine Run.skip (.seq (.block (.ops hm (.p3 e e e ?_))))
    obtain ⟨x242,hx242,h⟩ := bindO h
    refine Ops.z 21528 (Ev.ixS e e hx242) e e (.p e (.z 21560 (Ev.bsW (ys := ([w64 (x242)] : List Int)) (f := encI) e (.d1 .nil) e e e e e) e e ?_))
    obtain ⟨x243,hx243,h⟩ := bindO h
    exact Ops.z 21576 (Ev.apW (f := encI) (ontoW e e e) (addsW e e e (fun _ => e)) e bt3 e hx243) e e (.p e (.nil (.ops hm (.p3 e e e (.nil (⟨m228,Nat.lt_succ_self m228,_,_,(gh_pk [0,4,5] [21576] hB e e e e),_,_,h,e,e⟩))))))
   ·refine Run.exit ?_
    obtain rfl := someO h
    have h := hk228
    exact ⟨_,_,(gh_pk [0,4] [0] hB e e e e),_,h,e,e⟩
  ·refine Ops.gn e g234 (.gn e g234 (.z 13400 (.pkF e g234 e) e e (.nil (.condF e e (.exit ?_)))))
   obtain rfl := someO h
   have h := hk228
   exact ⟨_,_,(gh_pk [0,4] [0] hB e e e e),_,h,e,e⟩
 ·refine Run.seq (.so hm (.p3 e e e (.p3 e e e (.askO (x := .t 29) e h (fun g251 h => ?_) (fun g251 h => ?_)))))
  ·refine Ops.gn e g251 (.gn e g251 (.gn e g251 (.z 25720 (.pkT e g251 e) e e (.nil (.condT e e (.so hm (.z 29672 (Ev.bsW (ys := ([] : List Int)) (f := encI) e .nil e e e e e) e e (.p2 e e (.nil (.ret ?_))))))))))
   obtain rfl := someO h
   exact Ends.mkG (.inl e) e (gh_pk [0,1] [29672] hB e e e e) e e
  ·refine Ops.gp e g251 e ?_
   obtain ⟨y252,hy252,h⟩ := bindO h
   refine Ops.gs (s := 25688) e g251 (Ev.call [] [0] 0 (sem_s_ConfOk _ _ _ hy252) e e (.cons (.borrow e (by decide) (lendW (fun _ => e) _ e)) .nil) e (.inr ⟨e,ownL_root trivial⟩) e e) e e ?_
   refine Ops.gp e g251 e (.z 25720 (.pkF e g251 e) e e (.nil (.condO e h (fun g253 h => ?_) (fun g253 h => ?_))))
   ·refine Run.so hm (.z 29672 (Ev.bsW (ys := ([] : List Int)) (f := encI) e .nil e e e e e) e e (.p2 e e (.nil (.ret ?_))))
    obtain rfl := someO h
    exact Ends.mkG (.inl e) e (gh_pk [0,1] [29672] hB e e e e) e e
   ·refine Run.skip (.so hm (.p3 e e e (.nil (.ret ?_))))
    obtain rfl := someO h
    exact Ends.mkG (.inl e) e (gh_pk [0,1] [0] hB e e e e) e e
def s_EntryOk (N : Nat) (x1 : Entry) : Option (Bool) :=
 (s_l01In N x1.Term 0 100000).bind fun y117 =>
 (if (!y117) = true then
 some false
 else
 (if (x1.Kind == 1) = true then
 some (decide (x1.Data = (⟨#[]⟩ : ByteArray)))
 else
 (if (x1.Kind == 2) = true then
 (s_ReadConf N x1.Data).bind fun y124 =>
 some y124.2
 else
 (if (x1.Kind == 3) = true then
 some (decide ((x1.Data.size : Int) ≤ 120))
 else
 some false))))
theorem sem_s_EntryOk (N : Nat) (x1 : Entry) (r : Bool) (h : s_EntryOk N x1 = some r) : Says Tryz.prog 75 [.agg [VI x1.Term,VI x1.Kind,VS x1.Data]] 0 [] (VB r) [] := by
 unfold s_EntryOk at h
 refine Says.of_norm e Tryz.call75 e fun B hB => ?_
 have hm : B.m ≤ 1000 := by omega
 refine Run.so hm (.z 1000 (.bx e e) e e (.p e (.nil (.seq (.so hm (.p2 e e ?_))))))
 obtain ⟨y117,hy117,h⟩ := bindO h
 refine Ops.z 5128 (Ev.call [] [] 0 (sem_s_l01In _ _ _ _ _ hy117) e e (.d2 (.d1 .nil)) e (.inl e) e e) e e (.p e (.nil (.condO e h (fun g118 h => ?_) (fun g118 h => ?_))))
 ·refine Run.so hm (.p e (.nil (.ret ?_)))
  obtain rfl := someO h
  exact Ends.mkG (.inl e) e (gh_pk [0] [] hB e e e e) e e
 ·refine Run.skip (.seq (.so hm (.p2 e e (.nil (.block (.so hm (.p2 e e (.nil (.condO e h (fun g119 h => ?_) (fun g119 h => ?_))))))))))
  ·refine Run.so hm (.p3 e e e (.p e (.nil (.ret ?_))))
   obtain rfl := someO h
   exact Ends.mkG (.inl e) e (gh_pk [0] [] hB e e e e) e e
  ·refine Run.so hm (.p2 e e (.nil (.condO e h (fun g120 h => ?_) (fun g120 h => ?_))))
   ·refine Run.so hm (.p2 e e ?_)
    obtain ⟨y124,hy124,h⟩ := bindO h
    refine Ops.z 29704 (Ev.call [] [] 1 (sem_s_ReadConf _ _ _ hy124) e e (.d1 .nil) e (.inl e) e e) e e (.p3 e e e (.p2 e e (.nil (.so hm (.p2 e e (.nil (.ret ?_)))))))
    obtain rfl := someO h
    exact Ends.mkG (.inl e) e (gh_pk [0] [] hB e e e e) e e
   ·refine Run.so hm (.p2 e e (.nil (.condO e h (fun g125 h => ?_) (fun g125 h => ?_))))
    ·refine Run.so hm (.p3 e e e (.p2 e e (.nil (.ret ?_))))
     obtain rfl := someO h
     exact Ends.mkG (.inl e) e (gh_pk [0] [] hB e e e e) e e
    ·refine Run.skip (.so hm (.p e (.nil (.ret ?_))))
     obtain rfl := someO h
     exact Ends.mkG (.inl e) e (gh_pk [0] [] hB e e e e) e e
def s_LogOk_l1 (N : Nat) (x1 : Log) : Nat → Int → Int → Option ((Bool) ⊕ (Unit))
 | 0,_,_ => none
 | m + 1,x422,x423 =>
 (if (decide (x423 < (x1.Entries.length : Int))) = true then
 (at? x1.Entries x423).bind fun x507 =>
 (s_EntryOk N x507).bind fun y508 =>
 (if (!y508) = true then
 some (Sum.inl false)
 else
 (at? x1.Entries x423).bind fun x510 =>
 (if (decide (x510.Term < x422)) = true then
 some (Sum.inl false)
 else
 (at? x1.Entries x423).bind fun x513 =>
 s_LogOk_l1 N x1 m x513.Term (w64 (x423 + 1))))
 else
 some (Sum.inr ()))
def s_LogOk_l1_r (N : Nat) (x1 : Log) : (List Entry) → Int → Int → Option ((Bool) ⊕ (Unit))
 | [],x422,x423 =>
 some (Sum.inr ())
 | hd :: tl,x422,x423 =>
 (some hd).bind fun x507 =>
 (s_EntryOk N x507).bind fun y508 =>
 (if (!y508) = true then
 some (Sum.inl false)
 else
 (some hd).bind fun x510 =>
 (if (decide (x510.Term < x422)) = true then
 some (Sum.inl false)
 else
 (some hd).bind fun x513 =>
 s_LogOk_l1_r N x1 tl x513.Term (w64 (x423 + 1))))
theorem s_LogOk_l1_rng (N : Nat) (x1 : Log) (hx : x1.Entries.length ≤ 1099511627776) : ∀ (d k m : Nat) (x422 : Int),x1.Entries.length = k + d → d < m → s_LogOk_l1 N x1 m x422 (k : Int) = s_LogOk_l1_r N x1 (x1.Entries.drop k) x422 (k : Int) := by
 intro d
 induction d with
 | zero =>
  intro k m x422 hd hm
  obtain ⟨m,rfl⟩ : ∃ q,m = q + 1 := ⟨m - 1,by omega⟩
  rw [s_LogOk_l1,if_neg (by simp; omega),List.drop_eq_nil_of_le (by omega),s_LogOk_l1_r]
 | succ d ih =>
  intro k m x422 hd hm
  obtain ⟨m,rfl⟩ : ∃ q,m = q + 1 := ⟨m - 1,by omega⟩
  have hk : k < x1.Entries.length := by omega
  rw [s_LogOk_l1,if_pos (by simp; omega),List.drop_eq_getElem_cons hk,s_LogOk_l1_r]
  have h1 := at_lt hk
  have h2 := w64_succ (k := k) (by omega)
  have h3 := ih (k + 1) m
  simp only [h1,h2,h3 _ (by omega) (by omega)]
theorem s_LogOk_l1_eq {N : Nat} (x1 : Log) (hx : x1.Entries.length ≤ 1099511627776) (hN : x1.Entries.length < N) (x422 : Int) : s_LogOk_l1 N x1 N x422 0 = s_LogOk_l1_r N x1 x1.Entries x422 0 := s_LogOk_l1_rng N x1 hx x1.Entries.length 0 N x422 (by omega) hN
def s_LogOk (N : Nat) (x1 : Log) : Option (Bool) :=
 (s_l01In N x1.Start 0 100000).bind fun y323 =>
 (if (!y323) = true then
 some false
 else
 (s_l01In N x1.StartTerm 0 100000).bind fun y325 =>
 (if (!y325) = true then
 some false
 else
 (if (decide ((x1.Entries.length : Int) > 120)) = true then
 some false
 else
 (if (decide ((w64 (x1.Start + (x1.Entries.length : Int))) > 100000)) = true then
 some false
 else
 joinP (fun (v421 : Unit) =>
 some true) fun j421 =>
 (s_LogOk_l1 N x1 N x1.StartTerm 0).bind (Sum.elim (fun v469 => some v469) (fun (v470 : Unit) => j421 ()))))))
theorem sem_s_LogOk (N : Nat) (x1 : Log) (r : Bool) (h : s_LogOk N x1 = some r) : Says Tryz.prog 71 [.agg [VI x1.Start,VI x1.StartTerm,RO 40 (x1.Entries.map eE)]] 0 [] (VB r) [] := by
 unfold s_LogOk at h
 refine Says.of_norm e Tryz.call71 e fun B hB => ?_
 have hm : B.m ≤ 1000 := by omega
 refine Run.so hm (.z 1000 (.bx e e) e e (.p e (.nil (.seq (.so hm (.p2 e e ?_))))))
 obtain ⟨y323,hy323,h⟩ := bindO h
 refine Ops.z 5128 (Ev.call [] [] 0 (sem_s_l01In _ _ _ _ _ hy323) e e (.d2 (.d1 .nil)) e (.inl e) e e) e e (.p2 e e (.askO (x := .t 9) e h (fun g324 h => ?_) (fun g324 h => ?_)))
 ·refine Ops.gn e g324 (.gn e g324 (.gn e g324 (.gn e g324 (.z 5240 (.pkT e g324 e) e e (.p e (.gn e e (.gn e e (.gn e e (.gn e e (.z 5336 (.pkT e e e) e e (.p e (.gn e e (.gn e e (.gn e e (.gn e e (.gn e e (.gn e e (.gn e e (.z 5480 (.pkT e e e) e e (.nil (.condT e e (.so hm (.p e (.nil (.ret ?_)))))))))))))))))))))))))
  obtain rfl := someO h
  exact Ends.mkG (.inl e) e (gh_pk [0] [] hB e e e e) e e
 ·refine Ops.gp e g324 e (.gp e g324 e ?_)
  obtain ⟨y325,hy325,h⟩ := bindO h
  refine Ops.gs (s := 5208) e g324 (Ev.call [] [] 0 (sem_s_l01In _ _ _ _ _ hy325) e e (.d2 (.d1 .nil)) e (.inl e) e e) e e (.gp e g324 e (.z 5240 (.pkF e g324 e) e e (.p e (.askO (x := .t 15) e h (fun g326 h => ?_) (fun g326 h => ?_)))))
  ·refine Ops.gn e g326 (.gn e g326 (.gn e g326 (.gn e g326 (.z 5336 (.pkT e g326 e) e e (.p e (.gn e e (.gn e e (.gn e e (.gn e e (.gn e e (.gn e e (.gn e e (.z 5480 (.pkT e e e) e e (.nil (.condT e e (.so hm (.p e (.nil (.ret ?_)))))))))))))))))))
   obtain rfl := someO h
   exact Ends.mkG (.inl e) e (gh_pk [0] [] hB e e e e) e e
  ·refine Ops.gp e g326 e (.gp e g326 e (.gs (s := 5304) e g326 (Ev.lnF e) e e (.gp e g326 e (.z 5336 (.pkF e g326 e) e e (.p e (.askO (x := .t 21) e h (fun g327 h => ?_) (fun g327 h => ?_)))))))
   ·refine Ops.gn e g327 (.gn e g327 (.gn e g327 (.gn e g327 (.gn e g327 (.gn e g327 (.gn e g327 (.z 5480 (.pkT e g327 e) e e (.nil (.condT e e (.so hm (.p e (.nil (.ret ?_)))))))))))))
    obtain rfl := someO h
    exact Ends.mkG (.inl e) e (gh_pk [0] [] hB e e e e) e e
   ·refine Ops.gp e g327 e (.gp e g327 e (.gp e g327 e (.gp e g327 e (.gs (s := 5432) e g327 (Ev.lnF e) e e (.gp e g327 e (.gp e g327 e (.z 5480 (.pkF e g327 e) e e (.nil (.condO e h (fun g328 h => ?_) (fun g328 h => ?_))))))))))
    ·refine Run.so hm (.p e (.nil (.ret ?_)))
     obtain rfl := someO h
     exact Ends.mkG (.inl e) e (gh_pk [0] [] hB e e e e) e e
    ·refine Run.skip (.so hm (.p3 e e e (.nil (.seqO h (fun v421 => []) (fun (v421 : Unit) => []) (fun h => ?_) (fun v421 h => ?_)))))
     ·refine Run.so hm (.p e (.nil (.block ?_)))
      obtain ⟨res470,h,hk470⟩ := bindO h
      refine Run.loop (n := N) (fun m470 fr σ => ∃ (x422 : Int),∃ (x423 : Int),s_LogOk_l1 N x1 m470 x422 x423 = some res470 ∧ fr = [(1,.ptr 0 0),(3,VI x422),(4,VI x423)] ∧ σ = [(0,.box [VI x1.Start,VI x1.StartTerm,RO 40 (x1.Entries.map eE)])]) (gh_pk [1,3,4] [1000] hB e e e e) ⟨_,_,h,e,e⟩ ?_
      rintro m470 fr σ ⟨x422,x423,h,rfl,rfl⟩
      obtain _ | m470 := m470
      ·rw [s_LogOk_l1] at h; cases h
      rw [s_LogOk_l1] at h
      refine Run.seq (.so hm (.p3 e e e (.z 21528 (Ev.lnF e) e e (.p e (.nil (.condO e h (fun g473 h => ?_) (fun g473 h => ?_)))))))
      ·refine Run.skip (.seq (.block (.seq (.so hm (.p3 e e e ?_)))))
       obtain ⟨x507,hx507,h⟩ := bindO h
       refine Ops.z 29720 (Ev.iaF e e hx507) e e (.p e ?_)
       obtain ⟨y508,hy508,h⟩ := bindO h
       refine Ops.z 29752 (Ev.call [] [] 0 (sem_s_EntryOk _ _ _ hy508) e e (.cons (.agg (.d2 (.d1 .nil))) .nil) e (.inl e) e e) e e (.p2 e e (.askO (x := .t 46) e h (fun g509 h => ?_) (fun g509 h => ?_)))
       ·refine Ops.gn e g509 (.gn e g509 (.gn e g509 (.gn e g509 (.gn e g509 (.gn e g509 (.gn e g509 (.gn e g509 (.z 29928 (.pkT e g509 e) e e (.nil (.condT e e (.so hm (.p e (.nil (.ret ?_))))))))))))))
        obtain rfl := someO h
        have h := hk470
        replace h := inlO h
        obtain rfl := someO h
        exact Ends.mkG (.inl e) e (gh_pk [0] [] hB e e e e) e e
       ·refine Ops.gp e g509 e (.gp e g509 e (.gp e g509 e ?_))
        obtain ⟨x510,hx510,h⟩ := bindO h
        refine Ops.gs (s := 29848) e g509 (Ev.iaF e e hx510) e e (.gp e g509 e (.gp e g509 e (.gp e g509 e (.gp e g509 e (.z 29928 (.pkF e g509 e) e e (.nil (.condO e h (fun g511 h => ?_) (fun g511 h => ?_))))))))
        ·refine Run.so hm (.p e (.nil (.ret ?_)))
         obtain rfl := someO h
         have h := hk470
         replace h := inlO h
         obtain rfl := someO h
         exact Ends.mkG (.inl e) e (gh_pk [0] [] hB e e e e) e e
        ·refine Run.skip (.ops hm (.p3 e e e ?_))
         obtain ⟨x513,hx513,h⟩ := bindO h
         exact Ops.z 37912 (Ev.iaF e e hx513) e e (.p3 e e e (.nil (.ops hm (.p3 e e e (.nil (⟨m470,Nat.lt_succ_self m470,_,_,(gh_pk [1,3,4] [0] hB e e e e),_,_,h,e,e⟩))))))
      ·refine Run.exit ?_
       obtain rfl := someO h
       have h := hk470
       replace h := inrO h
       exact ⟨_,_,(gh_pk [] [] hB e e e e),(),h,e,e⟩
     ·refine Run.so hm (.p e (.nil (.ret ?_)))
      obtain rfl := someO h
      exact Ends.mkG (.inl e) e (gh_pk [0] [] hB e e e e) e e
def s_LogLast (N : Nat) (x1 : Log) : Option (Int × Int) :=
 (if ((x1.Entries.length : Int) == 0) = true then
 some (x1.Start,x1.StartTerm)
 else
 (at? x1.Entries (w64 ((x1.Entries.length : Int) - 1))).bind fun x107 =>
 some (w64 (x1.Start + (x1.Entries.length : Int)),x107.Term))
theorem sem_s_LogLast (N : Nat) (x1 : Log) (r : Int × Int) (h : s_LogLast N x1 = some r) : Says Tryz.prog 12 [.agg [VI x1.Start,VI x1.StartTerm,RO 40 (x1.Entries.map eE)]] 0 [] (.tup [VI r.1,VI r.2]) [] := by
 unfold s_LogLast at h
 refine Says.of_norm e Tryz.call12 e fun B hB => ?_
 have hm : B.m ≤ 1000 := by omega
 refine Run.so hm (.z 1000 (.bx e e) e e (.p2 e e (.nil (.so hm (.p2 e e (.z 5128 (Ev.lnF e) e e (.p e (.nil (.seq (.so hm (.p2 e e (.nil (.condO e h (fun g105 h => ?_) (fun g105 h => ?_))))))))))))))
 ·refine Run.seq (.draw hm hmix (.p e (.p e (.p e (.p e (.p e (.p e (.nil ⟨by kernel_rfl,?_⟩))))))))
  refine Run.ret ?_
  obtain rfl := someO h
  exact Ends.mkG (.inl e) e (gh_pk [0,1] [] hB e e e e) e e
 ·refine Run.skip (.seq (.draw hm hmix (.p e (.p e (.p e (.p e (.p e (.p e (.p e (.p e ?_))))))))))
  obtain ⟨x107,hx107,h⟩ := bindO h
  refine OpsD.z 17512 (Ev.iaF e e hx107) e e (.p e (.p e (.p e (.p e (.nil ⟨by kernel_rfl,?_⟩)))))
  refine Run.ret ?_
  obtain rfl := someO h
  exact Ends.mkG (.inl e) e (gh_pk [0,1] [] hB e e e e) e e
def s_ConfAt_l1 (N : Nat) (x1 : Node) (x2 : Int) : Nat → Int → (List Int) → Option ((List Int))
 | 0,_,_ => none
 | m + 1,x354,x369 =>
 (if (decide (x354 < (x1.Log.Entries.length : Int))) = true then
 (if (decide ((w64 ((w64 (x1.Log.Start + 1)) + x354)) ≤ x2)) = true then
 joinP (fun (v421 : (List Int)) =>
 s_ConfAt_l1 N x1 x2 m (w64 (x354 + 1)) v421) fun j421 =>
 (at? x1.Log.Entries x354).bind fun x423 =>
 (if (x423.Kind == 2) = true then
 (at? x1.Log.Entries x354).bind fun x431 =>
 (s_ReadConf N x431.Data).bind fun y432 =>
 (if y432.2 = true then
 j421 y432.1
 else
 j421 x369)
 else
 j421 x369)
 else
 some x369)
 else
 some x369)
def s_ConfAt_l1_r (N : Nat) (x1 : Node) (x2 : Int) : (List Entry) → Int → (List Int) → Option ((List Int))
 | [],x354,x369 =>
 some x369
 | hd :: tl,x354,x369 =>
 (if (decide ((w64 ((w64 (x1.Log.Start + 1)) + x354)) ≤ x2)) = true then
 joinP (fun (v421 : (List Int)) =>
 s_ConfAt_l1_r N x1 x2 tl (w64 (x354 + 1)) v421) fun j421 =>
 (some hd).bind fun x423 =>
 (if (x423.Kind == 2) = true then
 (some hd).bind fun x431 =>
 (s_ReadConf N x431.Data).bind fun y432 =>
 (if y432.2 = true then
 j421 y432.1
 else
 j421 x369)
 else
 j421 x369)
 else
 some x369)
theorem s_ConfAt_l1_rng (N : Nat) (x1 : Node) (x2 : Int) (hx : x1.Log.Entries.length ≤ 1099511627776) : ∀ (d k m : Nat) (x369 : (List Int)),x1.Log.Entries.length = k + d → d < m → s_ConfAt_l1 N x1 x2 m (k : Int) x369 = s_ConfAt_l1_r N x1 x2 (x1.Log.Entries.drop k) (k : Int) x369 := by
 intro d
 induction d with
 | zero =>
  intro k m x369 hd hm
  obtain ⟨m,rfl⟩ : ∃ q,m = q + 1 := ⟨m - 1,by omega⟩
  rw [s_ConfAt_l1,if_neg (by simp; omega),List.drop_eq_nil_of_le (by omega),s_ConfAt_l1_r]
 | succ d ih =>
  intro k m x369 hd hm
  obtain ⟨m,rfl⟩ : ∃ q,m = q + 1 := ⟨m - 1,by omega⟩
  have hk : k < x1.Log.Entries.length := by omega
  rw [s_ConfAt_l1,if_pos (by simp; omega),List.drop_eq_getElem_cons hk,s_ConfAt_l1_r]
  have h1 := at_lt hk
  have h2 := w64_succ (k := k) (by omega)
  have h3 := ih (k + 1) m
  simp only [h1,h2,h3 _ (by omega) (by omega)]
theorem s_ConfAt_l1_eq {N : Nat} (x1 : Node) (x2 : Int) (hx : x1.Log.Entries.length ≤ 1099511627776) (hN : x1.Log.Entries.length < N) (x369 : (List Int)) : s_ConfAt_l1 N x1 x2 N 0 x369 = s_ConfAt_l1_r N x1 x2 x1.Log.Entries 0 x369 := s_ConfAt_l1_rng N x1 x2 hx x1.Log.Entries.length 0 N x369 (by omega) hN
def s_ConfAt (N : Nat) (x1 : Node) (x2 : Int) : Option ((List Int)) :=
 (cat? ([] : List Int) x1.Conf).bind fun x270 =>
 joinP (fun (v352 : (List Int)) =>
 some v352) fun j352 =>
 (s_ConfAt_l1 N x1 x2 N 0 x270).bind (fun v401 => j352 v401)
theorem sem_s_ConfAt (N : Nat) (x1 : Node) (x2 : Int) (r : (List Int)) (h : s_ConfAt N x1 x2 = some r) : Says Tryz.prog 100 [.agg [VI x1.Id,VI x1.Term,VI x1.Vote,VI x1.Role,VI x1.Lead,RO 3 (x1.Conf.map encI),VI x1.Log.Start,VI x1.Log.StartTerm,RO 40 (x1.Log.Entries.map eE),VI x1.Commit,VI x1.Clock,VI x1.Limit,RO 3 (x1.Votes.map encI),RO 98 (x1.Peers.map eP)],VI x2] 0 [] (.sl 0 3 0 r.length) [(0,.vec 3 (r.map encI))] := by
 unfold s_ConfAt at h
 refine Says.of_norm e Tryz.call100 e fun B hB => ?_
 have hm : B.m ≤ 1000 := by omega
 refine Run.so hm (.z 1000 (.bx e e) e e (.p e (.nil (.so hm (.z 5096 (Ev.bsW (ys := ([] : List Int)) (f := encI) e .nil e e e e e) e e (.p2 e e ?_))))))
 obtain ⟨x270,hx270,h⟩ := bindO h
 refine Ops.z 5144 (Ev.apW (f := encI) (ontoW e e e) (addsF e) e bt3 e hx270) e e (.p e (.nil (.seqO h (fun v352 => [(5,.sl 0 3 0 v352.length)]) (fun (v352 : (List Int)) => [(0,.vec 3 (v352.map encI))]) (fun h => ?_) (fun v352 h => ?_))))
 ·refine Run.so hm (.p e (.nil (.block ?_)))
  obtain ⟨res401,h,hk401⟩ := bindO h
  refine Run.loop (n := N) (fun m401 fr σ => ∃ (x354 : Int),∃ (x369 : (List Int)),s_ConfAt_l1 N x1 x2 m401 x354 x369 = some res401 ∧ fr = [(1,VI x2),(2,.ptr 0 0),(5,.sl 1 3 0 x369.length),(6,VI x354)] ∧ σ = [(0,.box [VI x1.Id,VI x1.Term,VI x1.Vote,VI x1.Role,VI x1.Lead,RO 3 (x1.Conf.map encI),VI x1.Log.Start,VI x1.Log.StartTerm,RO 40 (x1.Log.Entries.map eE),VI x1.Commit,VI x1.Clock,VI x1.Limit,RO 3 (x1.Votes.map encI),RO 98 (x1.Peers.map eP)]),(1,.vec 3 (x369.map encI))]) (gh_pk [1,2,5,6] [1000,5144] hB e e e e) ⟨_,_,h,e,e⟩ ?_
  rintro m401 fr σ ⟨x354,x369,h,rfl,rfl⟩
  obtain _ | m401 := m401
  ·rw [s_ConfAt_l1] at h; cases h
  rw [s_ConfAt_l1] at h
  refine Run.seq (.so hm (.p3 e e e (.p e (.z 13352 (Ev.lnF e) e e (.p2 e e (.askO (x := .t 19) e h (fun g407 h => ?_) (fun g407 h => ?_)))))))
  ·refine Ops.gp e g407 e (.gp e g407 e (.gp e g407 e (.gp e g407 e (.gp e g407 e (.gp e g407 e (.gp e g407 e (.gp e g407 e (.z 13528 (.pkT e g407 e) e e (.nil (.condO e h (fun g408 h => ?_) (fun g408 h => ?_)))))))))))
   ·refine Run.skip (.seqO h (fun v421 => [(1,VI x2),(2,.ptr 0 0),(5,.sl 1 3 0 v421.length),(6,VI x354)]) (fun (v421 : (List Int)) => [(0,.box [VI x1.Id,VI x1.Term,VI x1.Vote,VI x1.Role,VI x1.Lead,RO 3 (x1.Conf.map encI),VI x1.Log.Start,VI x1.Log.StartTerm,RO 40 (x1.Log.Entries.map eE),VI x1.Commit,VI x1.Clock,VI x1.Limit,RO 3 (x1.Votes.map encI),RO 98 (x1.Peers.map eP)]),(1,.vec 3 (v421.map encI))]) (fun h => ?_) (fun v421 h => ?_))
    ·refine Run.block (.so hm (.p3 e e e (.p e ?_)))
     obtain ⟨x423,hx423,h⟩ := bindO h
     refine Ops.z 21544 (Ev.iaF e e hx423) e e (.p3 e e e (.nil (.condO e h (fun g424 h => ?_) (fun g424 h => ?_))))
     ·refine Run.so hm (.p3 e e e (.p e ?_))
      obtain ⟨x431,hx431,h⟩ := bindO h
      refine Ops.z 25640 (Ev.iaF e e hx431) e e (.p2 e e ?_)
      obtain ⟨y432,hy432,h⟩ := bindO h
      refine Ops.z 25688 (Ev.call [] [] 1 (sem_s_ReadConf _ _ _ hy432) e e (.d1 .nil) e (.inl e) e e) e e (.p3 e e e (.p2 e e (.nil (.so hm (.p e (.nil (.condO e h (fun g433 h => ?_) (fun g433 h => ?_))))))))
      ·exact Run.ops hm (.p2 e e (.nil (⟨_,_,(gh_pk [1,2,5,6] [0,25688] hB e e e e),_,h,e,e⟩)))
      ·exact Run.skip (⟨_,_,(gh_pk [1,2,5,6] [0,1] hB e e e e),_,h,e,e⟩)
     ·exact Run.skip (⟨_,_,(gh_pk [1,2,5,6] [0,1] hB e e e e),_,h,e,e⟩)
    ·exact Run.ops hm (.p3 e e e (.nil (⟨m401,Nat.lt_succ_self m401,_,_,(gh_pk [1,2,5,6] [0,1] hB e e e e),_,_,h,e,e⟩)))
   ·refine Run.exit ?_
    obtain rfl := someO h
    have h := hk401
    exact ⟨_,_,(gh_pk [5] [1] hB e e e e),_,h,e,e⟩
  ·refine Ops.gn e g407 (.gn e g407 (.gn e g407 (.gn e g407 (.gn e g407 (.gn e g407 (.gn e g407 (.gn e g407 (.z 13528 (.pkF e g407 e) e e (.nil (.condF e e (.exit ?_)))))))))))
   obtain rfl := someO h
   have h := hk401
   exact ⟨_,_,(gh_pk [5] [1] hB e e e e),_,h,e,e⟩
 ·refine Run.so hm (.p2 e e (.nil (.ret ?_)))
  obtain rfl := someO h
  exact Ends.mkG (.inl e) e (gh_pk [0] [0] hB e e e e) e e
def s_ConfOf (N : Nat) (x1 : Node) : Option ((List Int)) :=
 (s_ConfAt N x1 100120).bind fun y103 =>
 some y103
theorem sem_s_ConfOf (N : Nat) (x1 : Node) (r : (List Int)) (h : s_ConfOf N x1 = some r) : Says Tryz.prog 74 [.agg [VI x1.Id,VI x1.Term,VI x1.Vote,VI x1.Role,VI x1.Lead,RO 3 (x1.Conf.map encI),VI x1.Log.Start,VI x1.Log.StartTerm,RO 40 (x1.Log.Entries.map eE),VI x1.Commit,VI x1.Clock,VI x1.Limit,RO 3 (x1.Votes.map encI),RO 98 (x1.Peers.map eP)]] 0 [] (.sl 0 3 0 r.length) [(0,.vec 3 (r.map encI))] := by
 unfold s_ConfOf at h
 refine Says.of_norm e Tryz.call74 e fun B hB => ?_
 have hm : B.m ≤ 1000 := by omega
 refine Run.so hm (.z 1000 (.bx e e) e e (.p e (.nil (.so hm (.p e ?_)))))
 obtain ⟨y103,hy103,h⟩ := bindO h
 refine Ops.z 5112 (Ev.call [] [] 1 (sem_s_ConfAt _ _ _ _ hy103) e e (.cons (.agg (.d4 (.d4 (.d4 (.d2 .nil))))) (.d1 .nil)) e (.inl e) e e) e e (.p e (.nil (.ret ?_)))
 obtain rfl := someO h
 exact Ends.mkG (.inl e) e (gh_pk [0] [5112] hB e e e e) e e
def s_l16Others_l1 (N : Nat) (x1 : (List Int)) (x2 : Int) : Nat → Int → (List Int) → Option ((List Int))
 | 0,_,_ => none
 | m + 1,x224,x225 =>
 (if (decide (x224 < (x1.length : Int))) = true then
 joinP (fun (v254 : (List Int)) =>
 s_l16Others_l1 N x1 x2 m (w64 (x224 + 1)) v254) fun j254 =>
 (at? x1 x224).bind fun x256 =>
 (if (x256 != x2) = true then
 (at? x1 x224).bind fun x260 =>
 (cat? x225 ([x260] : List Int)).bind fun x261 =>
 j254 x261
 else
 j254 x225)
 else
 some x225)
def s_l16Others_l1_r (N : Nat) (x1 : (List Int)) (x2 : Int) : (List Int) → Int → (List Int) → Option ((List Int))
 | [],x224,x225 =>
 some x225
 | hd :: tl,x224,x225 =>
 joinP (fun (v254 : (List Int)) =>
 s_l16Others_l1_r N x1 x2 tl (w64 (x224 + 1)) v254) fun j254 =>
 (some hd).bind fun x256 =>
 (if (x256 != x2) = true then
 (some hd).bind fun x260 =>
 (cat? x225 ([x260] : List Int)).bind fun x261 =>
 j254 x261
 else
 j254 x225)
theorem s_l16Others_l1_rng (N : Nat) (x1 : (List Int)) (x2 : Int) (hx : x1.length ≤ 1099511627776) : ∀ (d k m : Nat) (x225 : (List Int)),x1.length = k + d → d < m → s_l16Others_l1 N x1 x2 m (k : Int) x225 = s_l16Others_l1_r N x1 x2 (x1.drop k) (k : Int) x225 := by
 intro d
 induction d with
 | zero =>
  intro k m x225 hd hm
  obtain ⟨m,rfl⟩ : ∃ q,m = q + 1 := ⟨m - 1,by omega⟩
  rw [s_l16Others_l1,if_neg (by simp; omega),List.drop_eq_nil_of_le (by omega),s_l16Others_l1_r]
 | succ d ih =>
  intro k m x225 hd hm
  obtain ⟨m,rfl⟩ : ∃ q,m = q + 1 := ⟨m - 1,by omega⟩
  have hk : k < x1.length := by omega
  rw [s_l16Others_l1,if_pos (by simp; omega),List.drop_eq_getElem_cons hk,s_l16Others_l1_r]
  have h1 := at_lt hk
  have h2 := w64_succ (k := k) (by omega)
  have h3 := ih (k + 1) m
  simp only [h1,h2,h3 _ (by omega) (by omega)]
theorem s_l16Others_l1_eq {N : Nat} (x1 : (List Int)) (x2 : Int) (hx : x1.length ≤ 1099511627776) (hN : x1.length < N) (x225 : (List Int)) : s_l16Others_l1 N x1 x2 N 0 x225 = s_l16Others_l1_r N x1 x2 x1 0 x225 := s_l16Others_l1_rng N x1 x2 hx x1.length 0 N x225 (by omega) hN
def s_l16Others (N : Nat) (x1 : (List Int)) (x2 : Int) : Option ((List Int)) :=
 joinP (fun (v221 : (List Int)) =>
 some v221) fun j221 =>
 (s_l16Others_l1 N x1 x2 N 0 ([] : List Int)).bind (fun v243 => j221 v243)
theorem sem_s_l16Others (N : Nat) (x1 : (List Int)) (x2 : Int) (r : (List Int)) (h : s_l16Others N x1 x2 = some r) : Says Tryz.prog 73 [RO 3 (x1.map encI),VI x2] 0 [] (.sl 0 3 0 r.length) [(0,.vec 3 (r.map encI))] := by
 unfold s_l16Others at h
 refine Says.of_norm e Tryz.call73 e fun B hB => ?_
 have hm : B.m ≤ 1000 := by omega
 refine Run.so hm (.p e (.nil (.so hm (.z 5096 (Ev.bsW (ys := ([] : List Int)) (f := encI) e .nil e e e e e) e e (.p e (.nil (.seqO h (fun v221 => [(5,.sl 0 3 0 v221.length)]) (fun (v221 : (List Int)) => [(0,.vec 3 (v221.map encI))]) (fun h => ?_) (fun v221 h => ?_))))))))
 ·refine Run.so hm (.p e (.nil (.block ?_)))
  obtain ⟨res243,h,hk243⟩ := bindO h
  refine Run.loop (n := N) (fun m243 fr σ => ∃ (x224 : Int),∃ (x225 : (List Int)),s_l16Others_l1 N x1 x2 m243 x224 x225 = some res243 ∧ fr = [(0,RO 3 (x1.map encI)),(1,VI x2),(5,.sl 0 3 0 x225.length),(6,VI x224)] ∧ σ = [(0,.vec 3 (x225.map encI))]) (gh_pk [0,1,5,6] [5096] hB e e e e) ⟨_,_,h,e,e⟩ ?_
  rintro m243 fr σ ⟨x224,x225,h,rfl,rfl⟩
  obtain _ | m243 := m243
  ·rw [s_l16Others_l1] at h; cases h
  rw [s_l16Others_l1] at h
  refine Run.seq (.so hm (.p2 e e (.z 13320 (Ev.lnF e) e e (.p e (.nil (.condO e h (fun g246 h => ?_) (fun g246 h => ?_)))))))
  ·refine Run.skip (.seqO h (fun v254 => [(0,RO 3 (x1.map encI)),(1,VI x2),(5,.sl 0 3 0 v254.length),(6,VI x224)]) (fun (v254 : (List Int)) => [(0,.vec 3 (v254.map encI))]) (fun h => ?_) (fun v254 h => ?_))
   ·refine Run.block (.so hm (.p2 e e ?_))
    obtain ⟨x256,hx256,h⟩ := bindO h
    refine Ops.z 21512 (Ev.iaF e e hx256) e e (.p3 e e e (.nil (.condO e h (fun g257 h => ?_) (fun g257 h => ?_))))
    ·refine Run.ops hm (.p3 e e e ?_)
     obtain ⟨x260,hx260,h⟩ := bindO h
     refine Ops.z 25624 (Ev.iaF e e hx260) e e (.p e (.z 25656 (Ev.bsW (ys := ([x260] : List Int)) (f := encI) e (.d1 .nil) e e e e e) e e ?_))
     obtain ⟨x261,hx261,h⟩ := bindO h
     exact Ops.z 25672 (Ev.apW (f := encI) (ontoW e e e) (addsW e e e (fun _ => e)) e bt3 e hx261) e e (.p e (.nil (⟨_,_,(gh_pk [0,1,5,6] [25672] hB e e e e),_,h,e,e⟩)))
    ·exact Run.skip (⟨_,_,(gh_pk [0,1,5,6] [0] hB e e e e),_,h,e,e⟩)
   ·exact Run.ops hm (.p3 e e e (.nil (⟨m243,Nat.lt_succ_self m243,_,_,(gh_pk [0,1,5,6] [0] hB e e e e),_,_,h,e,e⟩)))
  ·refine Run.exit ?_
   obtain rfl := someO h
   have h := hk243
   exact ⟨_,_,(gh_pk [5] [0] hB e e e e),_,h,e,e⟩
 ·refine Run.so hm (.p2 e e (.nil (.ret ?_)))
  obtain rfl := someO h
  exact Ends.mkG (.inl e) e (gh_pk [0] [0] hB e e e e) e e
def s_NodeOk_l1 (N : Nat) (x1 : Node) (y472 : Int × Int) (v521 : (List Int)) : Nat → Int → Option ((Bool) ⊕ (Unit))
 | 0,_ => none
 | m + 1,x631 =>
 (if (decide (x631 < ((v521.length : Nat) : Int))) = true then
 (at? x1.Peers x631).bind fun x714 =>
 (at? v521 x631).bind fun x722 =>
 (if (x714.Id != x722) = true then
 some (Sum.inl false)
 else
 (s_l01In N x714.Next 1 (w64 (y472.1 + 1))).bind fun y724 =>
 (if (!y724) = true then
 some (Sum.inl false)
 else
 (s_l01In N x714.Match 0 (w64 (x714.Next - 1))).bind fun y726 =>
 (if (!y726) = true then
 some (Sum.inl false)
 else
 (s_l01In N x714.Sent 0 20000).bind fun y728 =>
 (if (!y728) = true then
 some (Sum.inl false)
 else
 s_NodeOk_l1 N x1 y472 v521 m (w64 (x631 + 1))))))
 else
 some (Sum.inr ()))
def s_NodeOk (N : Nat) (x1 : Node) : Option (Bool) :=
 (s_l01In N x1.Id 1 4).bind fun y455 =>
 (if (!y455) = true then
 some false
 else
 (s_ConfOk N x1.Conf).bind fun y457 =>
 (if (!y457) = true then
 some false
 else
 (s_LogOk N x1.Log).bind fun y459 =>
 (if (!y459) = true then
 some false
 else
 (s_l01In N x1.Term 0 100000).bind fun y461 =>
 (if (!y461) = true then
 some false
 else
 (s_l01In N x1.Vote 0 4).bind fun y463 =>
 (if (!y463) = true then
 some false
 else
 (s_l01In N x1.Lead 0 4).bind fun y465 =>
 (if (!y465) = true then
 some false
 else
 (s_l01In N x1.Role 0 2).bind fun y467 =>
 (if (!y467) = true then
 some false
 else
 (s_LogLast N x1.Log).bind fun y472 =>
 joinP (fun (v494 : Unit) =>
 joinP (fun (v521 : (List Int)) =>
 (if ((x1.Peers.length : Int) != ((v521.length : Nat) : Int)) = true then
 some false
 else
 joinP (fun (v629 : Unit) =>
 some true) fun j629 =>
 (s_NodeOk_l1 N x1 y472 v521 N 0).bind (Sum.elim (fun v687 => some v687) (fun (v688 : Unit) => j629 ())))) fun j521 =>
 (if (x1.Role == 2) = true then
 (s_ConfOf N x1).bind fun y525 =>
 (s_l16Others N y525 x1.Id).bind fun y526 =>
 j521 y526
 else
 j521 ([] : List Int))) fun j494 =>
 (if (decide (x1.Term < y472.2)) = true then
 some false
 else
 (s_l01In N x1.Commit x1.Log.Start y472.1).bind fun y506 =>
 (if (!y506) = true then
 some false
 else
 (s_l01In N x1.Clock 0 20).bind fun y508 =>
 (if (!y508) = true then
 some false
 else
 (s_l01In N x1.Limit 1 20).bind fun y510 =>
 (if (!y510) = true then
 some false
 else
 (s_l07Rise N x1.Votes 1 4).bind fun y512 =>
 (if (!y512) = true then
 some false
 else
 (if (decide ((x1.Votes.length : Int) > 0)) = true then
 (if (x1.Role != 1) = true then
 some false
 else
 j494 ())
 else
 j494 ())))))))))))))
theorem sem_s_NodeOk (N : Nat) (x1 : Node) (r : Bool) (h : s_NodeOk N x1 = some r) : Says Tryz.prog 29 [.agg [VI x1.Id,VI x1.Term,VI x1.Vote,VI x1.Role,VI x1.Lead,RO 3 (x1.Conf.map encI),VI x1.Log.Start,VI x1.Log.StartTerm,RO 40 (x1.Log.Entries.map eE),VI x1.Commit,VI x1.Clock,VI x1.Limit,RO 3 (x1.Votes.map encI),RO 98 (x1.Peers.map eP)]] 0 [] (VB r) [] := by
 unfold s_NodeOk at h
 refine Says.of_norm e Tryz.call29 e fun B hB => ?_
 have hm : B.m ≤ 1000 := by omega
 refine Run.so hm (.z 1000 (.bx e e) e e (.p e (.nil (.seq (.so hm (.p2 e e ?_))))))
 obtain ⟨y455,hy455,h⟩ := bindO h
 refine Ops.z 5128 (Ev.call [] [] 0 (sem_s_l01In _ _ _ _ _ hy455) e e (.d2 (.d1 .nil)) e (.inl e) e e) e e (.p2 e e (.askO (x := .t 12) e h (fun g456 h => ?_) (fun g456 h => ?_)))
 ·refine Ops.gn e g456 (.gn e g456 (.gn e g456 (.gn e g456 (.z 5240 (.pkT e g456 e) e e (.p e (.gn e e (.gn e e (.gn e e (.gn e e (.z 5336 (.pkT e e e) e e (.p e (.gn e e (.gn e e (.gn e e (.gn e e (.z 5432 (.pkT e e e) e e (.p e (.gn e e (.gn e e (.gn e e (.gn e e (.z 5528 (.pkT e e e) e e (.p e (.gn e e (.gn e e (.gn e e (.gn e e (.z 5624 (.pkT e e e) e e (.p e (.gn e e (.gn e e (.gn e e (.gn e e (.z 5720 (.pkT e e e) e e (.nil (.condT e e (.so hm (.p e (.nil (.ret ?_))))))))))))))))))))))))))))))))))))))))
  obtain rfl := someO h
  exact Ends.mkG (.inl e) e (gh_pk [0] [] hB e e e e) e e
 ·refine Ops.gp e g456 e (.gp e g456 e ?_)
  obtain ⟨y457,hy457,h⟩ := bindO h
  refine Ops.gs (s := 5208) e g456 (Ev.call [] [] 0 (sem_s_ConfOk _ _ _ hy457) e e (.d1 .nil) e (.inl e) e e) e e (.gp e g456 e (.z 5240 (.pkF e g456 e) e e (.p e (.askO (x := .t 18) e h (fun g458 h => ?_) (fun g458 h => ?_)))))
  ·refine Ops.gn e g458 (.gn e g458 (.gn e g458 (.gn e g458 (.z 5336 (.pkT e g458 e) e e (.p e (.gn e e (.gn e e (.gn e e (.gn e e (.z 5432 (.pkT e e e) e e (.p e (.gn e e (.gn e e (.gn e e (.gn e e (.z 5528 (.pkT e e e) e e (.p e (.gn e e (.gn e e (.gn e e (.gn e e (.z 5624 (.pkT e e e) e e (.p e (.gn e e (.gn e e (.gn e e (.gn e e (.z 5720 (.pkT e e e) e e (.nil (.condT e e (.so hm (.p e (.nil (.ret ?_))))))))))))))))))))))))))))))))))
   obtain rfl := someO h
   exact Ends.mkG (.inl e) e (gh_pk [0] [] hB e e e e) e e
  ·refine Ops.gp e g458 e (.gp e g458 e ?_)
   obtain ⟨y459,hy459,h⟩ := bindO h
   refine Ops.gs (s := 5304) e g458 (Ev.call [] [] 0 (sem_s_LogOk _ _ _ hy459) e e (.cons (.agg (.d2 (.d1 .nil))) .nil) e (.inl e) e e) e e (.gp e g458 e (.z 5336 (.pkF e g458 e) e e (.p e (.askO (x := .t 24) e h (fun g460 h => ?_) (fun g460 h => ?_)))))
   ·refine Ops.gn e g460 (.gn e g460 (.gn e g460 (.gn e g460 (.z 5432 (.pkT e g460 e) e e (.p e (.gn e e (.gn e e (.gn e e (.gn e e (.z 5528 (.pkT e e e) e e (.p e (.gn e e (.gn e e (.gn e e (.gn e e (.z 5624 (.pkT e e e) e e (.p e (.gn e e (.gn e e (.gn e e (.gn e e (.z 5720 (.pkT e e e) e e (.nil (.condT e e (.so hm (.p e (.nil (.ret ?_))))))))))))))))))))))))))))
    obtain rfl := someO h
    exact Ends.mkG (.inl e) e (gh_pk [0] [] hB e e e e) e e
   ·refine Ops.gp e g460 e (.gp e g460 e ?_)
    obtain ⟨y461,hy461,h⟩ := bindO h
    refine Ops.gs (s := 5400) e g460 (Ev.call [] [] 0 (sem_s_l01In _ _ _ _ _ hy461) e e (.d2 (.d1 .nil)) e (.inl e) e e) e e (.gp e g460 e (.z 5432 (.pkF e g460 e) e e (.p e (.askO (x := .t 30) e h (fun g462 h => ?_) (fun g462 h => ?_)))))
    ·refine Ops.gn e g462 (.gn e g462 (.gn e g462 (.gn e g462 (.z 5528 (.pkT e g462 e) e e (.p e (.gn e e (.gn e e (.gn e e (.gn e e (.z 5624 (.pkT e e e) e e (.p e (.gn e e (.gn e e (.gn e e (.gn e e (.z 5720 (.pkT e e e) e e (.nil (.condT e e (.so hm (.p e (.nil (.ret ?_))))))))))))))))))))))
     obtain rfl := someO h
     exact Ends.mkG (.inl e) e (gh_pk [0] [] hB e e e e) e e
    ·refine Ops.gp e g462 e (.gp e g462 e ?_)
     obtain ⟨y463,hy463,h⟩ := bindO h
     refine Ops.gs (s := 5496) e g462 (Ev.call [] [] 0 (sem_s_l01In _ _ _ _ _ hy463) e e (.d2 (.d1 .nil)) e (.inl e) e e) e e (.gp e g462 e (.z 5528 (.pkF e g462 e) e e (.p e (.askO (x := .t 36) e h (fun g464 h => ?_) (fun g464 h => ?_)))))
     ·refine Ops.gn e g464 (.gn e g464 (.gn e g464 (.gn e g464 (.z 5624 (.pkT e g464 e) e e (.p e (.gn e e (.gn e e (.gn e e (.gn e e (.z 5720 (.pkT e e e) e e (.nil (.condT e e (.so hm (.p e (.nil (.ret ?_))))))))))))))))
      obtain rfl := someO h
      exact Ends.mkG (.inl e) e (gh_pk [0] [] hB e e e e) e e
     ·refine Ops.gp e g464 e (.gp e g464 e ?_)
      obtain ⟨y465,hy465,h⟩ := bindO h
      refine Ops.gs (s := 5592) e g464 (Ev.call [] [] 0 (sem_s_l01In _ _ _ _ _ hy465) e e (.d2 (.d1 .nil)) e (.inl e) e e) e e (.gp e g464 e (.z 5624 (.pkF e g464 e) e e (.p e (.askO (x := .t 42) e h (fun g466 h => ?_) (fun g466 h => ?_)))))
      ·refine Ops.gn e g466 (.gn e g466 (.gn e g466 (.gn e g466 (.z 5720 (.pkT e g466 e) e e (.nil (.condT e e (.so hm (.p e (.nil (.ret ?_))))))))))
       obtain rfl := someO h
       exact Ends.mkG (.inl e) e (gh_pk [0] [] hB e e e e) e e
      ·refine Ops.gp e g466 e (.gp e g466 e ?_)
       obtain ⟨y467,hy467,h⟩ := bindO h
       refine Ops.gs (s := 5688) e g466 (Ev.call [] [] 0 (sem_s_l01In _ _ _ _ _ hy467) e e (.d2 (.d1 .nil)) e (.inl e) e e) e e (.gp e g466 e (.z 5720 (.pkF e g466 e) e e (.nil (.condO e h (fun g468 h => ?_) (fun g468 h => ?_)))))
       ·refine Run.so hm (.p e (.nil (.ret ?_)))
        obtain rfl := someO h
        exact Ends.mkG (.inl e) e (gh_pk [0] [] hB e e e e) e e
       ·refine Run.skip (.so hm (.p2 e e ?_))
        obtain ⟨y472,hy472,h⟩ := bindO h
        refine Ops.z 13320 (Ev.call [] [] 0 (sem_s_LogLast _ _ _ hy472) e e (.cons (.agg (.d2 (.d1 .nil))) .nil) e (.inl e) e e) e e (.p3 e e e (.p2 e e (.nil (.seqO h (fun v494 => [(1,.ptr 0 0),(3,VI y472.1)]) (fun (v494 : Unit) => [(0,.box [VI x1.Id,VI x1.Term,VI x1.Vote,VI x1.Role,VI x1.Lead,RO 3 (x1.Conf.map encI),VI x1.Log.Start,VI x1.Log.StartTerm,RO 40 (x1.Log.Entries.map eE),VI x1.Commit,VI x1.Clock,VI x1.Limit,RO 3 (x1.Votes.map encI),RO 98 (x1.Peers.map eP)])]) (fun h => ?_) (fun v494 h => ?_)))))
        ·refine Run.so hm (.p3 e e e (.p2 e e (.askO (x := .t 58) e h (fun g505 h => ?_) (fun g505 h => ?_))))
         ·refine Ops.gn e g505 (.gn e g505 (.gn e g505 (.gn e g505 (.gn e g505 (.gn e g505 (.gn e g505 (.gn e g505 (.z 17592 (.pkT e g505 e) e e (.p e (.gn e e (.gn e e (.gn e e (.gn e e (.z 17688 (.pkT e e e) e e (.p e (.gn e e (.gn e e (.gn e e (.gn e e (.z 17784 (.pkT e e e) e e (.p e (.gn e e (.gn e e (.gn e e (.gn e e (.z 17880 (.pkT e e e) e e (.p e (.gn e e (.gn e e (.gn e e (.gn e e (.gn e e (.gu e (.gu e (.gu e (.gn e e (.z 18056 (.pkT e e e) e e (.nil (.condT e e (.so hm (.p e (.nil (.ret ?_)))))))))))))))))))))))))))))))))))))))))))
          obtain rfl := someO h
          exact Ends.mkG (.inl e) e (gh_pk [0] [] hB e e e e) e e
         ·refine Ops.gp e g505 e (.gp e g505 e (.gp e g505 e (.gp e g505 e (.gp e g505 e (.gp e g505 e ?_)))))
          obtain ⟨y506,hy506,h⟩ := bindO h
          refine Ops.gs (s := 17560) e g505 (Ev.call [] [] 0 (sem_s_l01In _ _ _ _ _ hy506) e e (.d2 (.d1 .nil)) e (.inl e) e e) e e (.gp e g505 e (.z 17592 (.pkF e g505 e) e e (.p e (.askO (x := .t 68) e h (fun g507 h => ?_) (fun g507 h => ?_)))))
          ·refine Ops.gn e g507 (.gn e g507 (.gn e g507 (.gn e g507 (.z 17688 (.pkT e g507 e) e e (.p e (.gn e e (.gn e e (.gn e e (.gn e e (.z 17784 (.pkT e e e) e e (.p e (.gn e e (.gn e e (.gn e e (.gn e e (.z 17880 (.pkT e e e) e e (.p e (.gn e e (.gn e e (.gn e e (.gn e e (.gn e e (.gu e (.gu e (.gu e (.gn e e (.z 18056 (.pkT e e e) e e (.nil (.condT e e (.so hm (.p e (.nil (.ret ?_)))))))))))))))))))))))))))))))))
           obtain rfl := someO h
           exact Ends.mkG (.inl e) e (gh_pk [0] [] hB e e e e) e e
          ·refine Ops.gp e g507 e (.gp e g507 e ?_)
           obtain ⟨y508,hy508,h⟩ := bindO h
           refine Ops.gs (s := 17656) e g507 (Ev.call [] [] 0 (sem_s_l01In _ _ _ _ _ hy508) e e (.d2 (.d1 .nil)) e (.inl e) e e) e e (.gp e g507 e (.z 17688 (.pkF e g507 e) e e (.p e (.askO (x := .t 74) e h (fun g509 h => ?_) (fun g509 h => ?_)))))
           ·refine Ops.gn e g509 (.gn e g509 (.gn e g509 (.gn e g509 (.z 17784 (.pkT e g509 e) e e (.p e (.gn e e (.gn e e (.gn e e (.gn e e (.z 17880 (.pkT e e e) e e (.p e (.gn e e (.gn e e (.gn e e (.gn e e (.gn e e (.gu e (.gu e (.gu e (.gn e e (.z 18056 (.pkT e e e) e e (.nil (.condT e e (.so hm (.p e (.nil (.ret ?_)))))))))))))))))))))))))))
            obtain rfl := someO h
            exact Ends.mkG (.inl e) e (gh_pk [0] [] hB e e e e) e e
           ·refine Ops.gp e g509 e (.gp e g509 e ?_)
            obtain ⟨y510,hy510,h⟩ := bindO h
            refine Ops.gs (s := 17752) e g509 (Ev.call [] [] 0 (sem_s_l01In _ _ _ _ _ hy510) e e (.d2 (.d1 .nil)) e (.inl e) e e) e e (.gp e g509 e (.z 17784 (.pkF e g509 e) e e (.p e (.askO (x := .t 80) e h (fun g511 h => ?_) (fun g511 h => ?_)))))
            ·refine Ops.gn e g511 (.gn e g511 (.gn e g511 (.gn e g511 (.z 17880 (.pkT e g511 e) e e (.p e (.gn e e (.gn e e (.gn e e (.gn e e (.gn e e (.gu e (.gu e (.gu e (.gn e e (.z 18056 (.pkT e e e) e e (.nil (.condT e e (.so hm (.p e (.nil (.ret ?_)))))))))))))))))))))
             obtain rfl := someO h
             exact Ends.mkG (.inl e) e (gh_pk [0] [] hB e e e e) e e
            ·refine Ops.gp e g511 e (.gp e g511 e ?_)
             obtain ⟨y512,hy512,h⟩ := bindO h
             refine Ops.gs (s := 17848) e g511 (Ev.call [] [] 0 (sem_s_l07Rise _ _ _ _ _ hy512) e e (.d2 (.d1 .nil)) e (.inl e) e e) e e (.gp e g511 e (.z 17880 (.pkF e g511 e) e e (.p e (.askO (x := .t 86) e h (fun g513 h => ?_) (fun g513 h => ?_)))))
             ·refine Ops.gn e g513 (.gn e g513 (.gn e g513 (.gn e g513 (.gn e g513 (.gu e (.gu e (.gu e (.gn e g513 (.z 18056 (.pkT e g513 e) e e (.nil (.condT e e (.so hm (.p e (.nil (.ret ?_)))))))))))))))
              obtain rfl := someO h
              exact Ends.mkG (.inl e) e (gh_pk [0] [] hB e e e e) e e
             ·refine Ops.gp e g513 e (.gp e g513 e (.gs (s := 17944) e g513 (Ev.lnF e) e e (.gp e g513 e (.gp e g513 e (.askO (x := .t 91) e h (fun g514 h => ?_) (fun g514 h => ?_))))))
              ·refine Ops.gp e g514 e (.gp e g514 e (.gp e g514 e (.gs (s := 18040) e g513 (.pkT e g514 e) e e (.z 18056 (.pkF e g513 e) e e (.nil (.condO e h (fun g515 h => ?_) (fun g515 h => ?_)))))))
               ·refine Run.so hm (.p e (.nil (.ret ?_)))
                obtain rfl := someO h
                exact Ends.mkG (.inl e) e (gh_pk [0] [] hB e e e e) e e
               ·exact Run.skip (⟨_,_,(gh_pk [1,3] [1000] hB e e e e),(),h,e,e⟩)
              ·exact Ops.gn e g514 (.gn e g514 (.gn e g514 (.gs (s := 18040) e g513 (.pkF e g514 e) e e (.z 18056 (.pkF e g513 e) e e (.nil (.condF e e (.skip (⟨_,_,(gh_pk [1,3] [1000] hB e e e e),(),h,e,e⟩))))))))
        ·refine Run.so hm (.z 25576 (Ev.bsW (ys := ([] : List Int)) (f := encI) e .nil e e e e e) e e (.p e (.nil (.seqO h (fun v521 => [(1,.ptr 0 0),(3,VI y472.1),(5,.sl 1 3 0 v521.length)]) (fun (v521 : (List Int)) => [(0,.box [VI x1.Id,VI x1.Term,VI x1.Vote,VI x1.Role,VI x1.Lead,RO 3 (x1.Conf.map encI),VI x1.Log.Start,VI x1.Log.StartTerm,RO 40 (x1.Log.Entries.map eE),VI x1.Commit,VI x1.Clock,VI x1.Limit,RO 3 (x1.Votes.map encI),RO 98 (x1.Peers.map eP)]),(1,.vec 3 (v521.map encI))]) (fun h => ?_) (fun v521 h => ?_)))))
         ·refine Run.so hm (.p3 e e e (.nil (.condO e h (fun g522 h => ?_) (fun g522 h => ?_))))
          ·refine Run.draw hm hmix (.p e ?_)
           obtain ⟨y525,hy525,h⟩ := bindO h
           refine OpsD.z 33784 (Ev.call [] [] 1 (sem_s_ConfOf _ _ _ hy525) e e (.cons (.agg (.d4 (.d4 (.d4 (.d2 .nil))))) .nil) e (.inl e) e e) e e (.p e (.p e ?_))
           obtain ⟨y526,hy526,h⟩ := bindO h
           refine OpsD.z 33832 (Ev.call [] [33784] 1 (sem_s_l16Others _ _ _ _ hy526) e e (.cons (.borrow e (by decide) (lendW (fun _ => e) _ e)) (.d1 .nil)) e (.inr ⟨e,ownL_root ⟨own_rows (fun _ => e) _,trivial⟩⟩) e e) e e ?_
           refine OpsD.p e (.nil ⟨by kernel_rfl,?_⟩)
           exact ⟨_,_,(gh_pk [1,3,5] [0,33832] hB e e e e),_,h,e,e⟩
          ·exact Run.skip (⟨_,_,(gh_pk [1,3,5] [0,25576] hB e e e e),_,h,e,e⟩)
         ·refine Run.seq (.so hm (.p2 e e (.z 37896 (Ev.lnF e) e e (.p3 e e e (.nil (.condO e h (fun g528 h => ?_) (fun g528 h => ?_)))))))
          ·refine Run.so hm (.p e (.nil (.ret ?_)))
           obtain rfl := someO h
           exact Ends.mkG (.inl e) e (gh_pk [0] [] hB e e e e) e e
          ·refine Run.skip (.seqO h (fun v629 => []) (fun (v629 : Unit) => []) (fun h => ?_) (fun v629 h => ?_))
           ·refine Run.so hm (.p e (.nil (.block ?_)))
            obtain ⟨res688,h,hk688⟩ := bindO h
            refine Run.loop (n := N) (fun m688 fr σ => ∃ (x631 : Int),s_NodeOk_l1 N x1 y472 v521 m688 x631 = some res688 ∧ fr = [(1,.ptr 0 0),(3,VI y472.1),(5,.sl 1 3 0 v521.length),(6,VI x631)] ∧ σ = [(0,.box [VI x1.Id,VI x1.Term,VI x1.Vote,VI x1.Role,VI x1.Lead,RO 3 (x1.Conf.map encI),VI x1.Log.Start,VI x1.Log.StartTerm,RO 40 (x1.Log.Entries.map eE),VI x1.Commit,VI x1.Clock,VI x1.Limit,RO 3 (x1.Votes.map encI),RO 98 (x1.Peers.map eP)]),(1,.vec 3 (v521.map encI))]) (gh_pk [1,3,5,6] [0,1] hB e e e e) ⟨_,h,e,e⟩ ?_
            rintro m688 fr σ ⟨x631,h,rfl,rfl⟩
            obtain _ | m688 := m688
            ·rw [s_NodeOk_l1] at h; cases h
            rw [s_NodeOk_l1] at h
            refine Run.seq (.so hm (.p3 e e e (.p e (.nil (.condO e h (fun g691 h => ?_) (fun g691 h => ?_))))))
            ·refine Run.skip (.seq (.block (.so hm (.p3 e e e ?_))))
             obtain ⟨x714,hx714,h⟩ := bindO h
             refine Ops.z 58392 (Ev.iaF e e hx714) e e (.p e (.z 58424 (.al e e) e e (.y 58440 (.sto e e e e e e) e e (.nil (.seq (.draw hm hmix (.p e (.p e (.p e (.p e ?_))))))))))
             obtain ⟨x722,hx722,h⟩ := bindO h
             refine OpsD.z 62504 (Ev.iaW e e e hx722) e e (.z 62520 (Ev.ldE (f := encI) e e (at_some hx722).2 e e e) e e (.p e (.p e (.askO (x := .t 130) e h (fun g723 h => ?_) (fun g723 h => ?_)))))
             ·refine OpsD.gn e g723 (.gn e g723 (.gn e g723 (.gn e g723 (.gn e g723 (.gn e g723 (.z 62664 (.pkT e g723 e) e e (.p e (.gn e e (.gn e e (.gn e e (.gn e e (.gn e e (.gn e e (.gn e e (.z 62808 (.pkT e e e) e e (.p e (.gn e e (.gn e e (.gn e e (.gn e e (.z 62904 (.pkT e e e) e e (.nil ⟨by kernel_rfl,?_⟩))))))))))))))))))))))
              refine Run.condT e e (.so hm (.p e (.nil (.ret ?_))))
              obtain rfl := someO h
              have h := hk688
              replace h := inlO h
              obtain rfl := someO h
              exact Ends.mkG (.inl e) e (gh_pk [0] [] hB e e e e) e e
             ·refine OpsD.gp e g723 e (.gp e g723 e (.gp e g723 e (.gp e g723 e ?_)))
              obtain ⟨y724,hy724,h⟩ := bindO h
              refine OpsD.gs (s := 62632) e g723 (Ev.call [] [] 0 (sem_s_l01In _ _ _ _ _ hy724) e e (.d2 (.d1 .nil)) e (.inl e) e e) e e (.gp e g723 e (.z 62664 (.pkF e g723 e) e e (.p e (.askO (x := .t 138) e h (fun g725 h => ?_) (fun g725 h => ?_)))))
              ·refine OpsD.gn e g725 (.gn e g725 (.gn e g725 (.gn e g725 (.gn e g725 (.gn e g725 (.gn e g725 (.z 62808 (.pkT e g725 e) e e (.p e (.gn e e (.gn e e (.gn e e (.gn e e (.z 62904 (.pkT e e e) e e (.nil ⟨by kernel_rfl,?_⟩))))))))))))))
               refine Run.condT e e (.so hm (.p e (.nil (.ret ?_))))
               obtain rfl := someO h
               have h := hk688
               replace h := inlO h
               obtain rfl := someO h
               exact Ends.mkG (.inl e) e (gh_pk [0] [] hB e e e e) e e
              ·refine OpsD.gp e g725 e (.gp e g725 e (.gp e g725 e (.gp e g725 e (.gp e g725 e ?_))))
               obtain ⟨y726,hy726,h⟩ := bindO h
               refine OpsD.gs (s := 62776) e g725 (Ev.call [] [] 0 (sem_s_l01In _ _ _ _ _ hy726) e e (.d2 (.d1 .nil)) e (.inl e) e e) e e (.gp e g725 e (.z 62808 (.pkF e g725 e) e e (.p e (.askO (x := .t 147) e h (fun g727 h => ?_) (fun g727 h => ?_)))))
               ·refine OpsD.gn e g727 (.gn e g727 (.gn e g727 (.gn e g727 (.z 62904 (.pkT e g727 e) e e (.nil ⟨by kernel_rfl,?_⟩)))))
                refine Run.condT e e (.so hm (.p e (.nil (.ret ?_))))
                obtain rfl := someO h
                have h := hk688
                replace h := inlO h
                obtain rfl := someO h
                exact Ends.mkG (.inl e) e (gh_pk [0] [] hB e e e e) e e
               ·refine OpsD.gp e g727 e (.gp e g727 e ?_)
                obtain ⟨y728,hy728,h⟩ := bindO h
                refine OpsD.gs (s := 62872) e g727 (Ev.call [] [] 0 (sem_s_l01In _ _ _ _ _ hy728) e e (.d2 (.d1 .nil)) e (.inl e) e e) e e (.gp e g727 e (.z 62904 (.pkF e g727 e) e e (.nil ⟨by kernel_rfl,?_⟩)))
                refine Run.condO e h (fun g729 h => ?_) (fun g729 h => ?_)
                ·refine Run.so hm (.p e (.nil (.ret ?_)))
                 obtain rfl := someO h
                 have h := hk688
                 replace h := inlO h
                 obtain rfl := someO h
                 exact Ends.mkG (.inl e) e (gh_pk [0] [] hB e e e e) e e
                ·exact Run.skip (.ops hm (.p3 e e e (.nil (⟨m688,Nat.lt_succ_self m688,_,_,(gh_pk [1,3,5,6] [0,1] hB e e e e),_,h,e,e⟩))))
            ·refine Run.exit ?_
             obtain rfl := someO h
             have h := hk688
             replace h := inrO h
             exact ⟨_,_,(gh_pk [] [] hB e e e e),(),h,e,e⟩
           ·refine Run.so hm (.p e (.nil (.ret ?_)))
            obtain rfl := someO h
            exact Ends.mkG (.inl e) e (gh_pk [0] [] hB e e e e) e e
end Go.Proofs.YtkojbcnafckofaaGreat.Pe.FnNodes
