/- Functions,as pure functions; and that Go does just that. -/
import Derived.Test.YtehknbpmpbghhaaPeTy
import Derived.Test.YtehknbpmpbghhaaPeSFnSettles
namespace Go.Proofs.Ytehknbpmpbghhaa.Pe.FnSettles
open Go Go.RowKit
set_option linter.unusedVariables false
set_option linter.unusedSimpArgs false
set_option maxHeartbeats 40000000
theorem hmix : Try.prog.follows .mixedOrders = true := by kernel_rfl
structure Tl01Cur where
 b : (List Int)
 i : Int
 h : Int
abbrev encTl01Cur (o : Bool) (x : Tl01Cur) : List C := [.row o 5 (x.b.map encU),.i .i64 x.i,.i .i64 x.h]
theorem ro_encTl01Cur (x : Tl01Cur) : roCs (encTl01Cur true x) = encTl01Cur false x := by simp only [encTl01Cur,roCs,roC,roRows_mapf (fun _ => rfl)]
theorem ro2_encTl01Cur (x : Tl01Cur) : roCs (encTl01Cur false x) = encTl01Cur false x := by simp only [encTl01Cur,roCs,roC,roRows_mapf (fun _ => rfl)]
theorem own_encTl01Cur (x : Tl01Cur) : ownCs (encTl01Cur true x) = true := by simp only [encTl01Cur,ownCs,ownC,Bool.and_self,Bool.and_true,Bool.true_and,own_rows (f := encU) (fun _ => rfl)]
structure Entry where
 Term : Int
 Kind : Int
 Data : ByteArray
abbrev encEntry (x : Entry) : List C := [.i .i64 x.Term,.i .i64 x.Kind,.s x.Data]
structure Log where
 Start : Int
 StartTerm : Int
 Entries : (List Entry)
abbrev encLog (o : Bool) (x : Log) : List C := [.i .i64 x.Start,.i .i64 x.StartTerm,.row o 51 (x.Entries.map encEntry)]
theorem ro_encLog (x : Log) : roCs (encLog true x) = encLog false x := by simp only [encLog,roCs,roC,roRows_mapf (fun _ => rfl)]
theorem ro2_encLog (x : Log) : roCs (encLog false x) = encLog false x := by simp only [encLog,roCs,roC,roRows_mapf (fun _ => rfl)]
theorem own_encLog (x : Log) : ownCs (encLog true x) = true := by simp only [encLog,ownCs,ownC,Bool.and_self,Bool.and_true,Bool.true_and,own_rows (f := encEntry) (fun _ => rfl)]
structure Peer where
 Id : Int
 Next : Int
 Match : Int
 Sent : Int
abbrev encPeer (x : Peer) : List C := [.i .i64 x.Id,.i .i64 x.Next,.i .i64 x.Match,.i .i64 x.Sent]
structure Node where
 Id : Int
 Term : Int
 Vote : Int
 Role : Int
 Lead : Int
 Conf : (List Int)
 Log : Log
 Commit : Int
 Clock : Int
 Limit : Int
 Votes : (List Int)
 Peers : (List Peer)
abbrev encNode (o : Bool) (x : Node) : List C := [.i .i64 x.Id,.i .i64 x.Term,.i .i64 x.Vote,.i .i64 x.Role,.i .i64 x.Lead,.row o 3 (x.Conf.map encI),.i .i64 x.Log.Start,.i .i64 x.Log.StartTerm,.row o 51 (x.Log.Entries.map encEntry),.i .i64 x.Commit,.i .i64 x.Clock,.i .i64 x.Limit,.row o 3 (x.Votes.map encI),.row o 135 (x.Peers.map encPeer)]
theorem ro_encNode (x : Node) : roCs (encNode true x) = encNode false x := by simp only [encNode,roCs,roC,roRows_mapf (fun _ => rfl),roRows_mapf (fun _ => rfl),roRows_mapf (fun _ => rfl),roRows_mapf (fun _ => rfl)]
theorem ro2_encNode (x : Node) : roCs (encNode false x) = encNode false x := by simp only [encNode,roCs,roC,roRows_mapf (fun _ => rfl),roRows_mapf (fun _ => rfl),roRows_mapf (fun _ => rfl),roRows_mapf (fun _ => rfl)]
theorem own_encNode (x : Node) : ownCs (encNode true x) = true := by simp only [encNode,ownCs,ownC,Bool.and_self,Bool.and_true,Bool.true_and,own_rows (f := encI) (fun _ => rfl),own_rows (f := encEntry) (fun _ => rfl),own_rows (f := encI) (fun _ => rfl),own_rows (f := encPeer) (fun _ => rfl)]
structure Message where
 Kind : Int
 From : Int
 To : Int
 Term : Int
 Index : Int
 LogTerm : Int
 Commit : Int
 Ok : Bool
 Entries : (List Entry)
 Conf : (List Int)
 Data : ByteArray
 Last : Bool
abbrev encMessage (o : Bool) (x : Message) : List C := [.i .i64 x.Kind,.i .i64 x.From,.i .i64 x.To,.i .i64 x.Term,.i .i64 x.Index,.i .i64 x.LogTerm,.i .i64 x.Commit,.b x.Ok,.row o 51 (x.Entries.map encEntry),.row o 3 (x.Conf.map encI),.s x.Data,.b x.Last]
theorem ro_encMessage (x : Message) : roCs (encMessage true x) = encMessage false x := by simp only [encMessage,roCs,roC,roRows_mapf (fun _ => rfl),roRows_mapf (fun _ => rfl)]
theorem ro2_encMessage (x : Message) : roCs (encMessage false x) = encMessage false x := by simp only [encMessage,roCs,roC,roRows_mapf (fun _ => rfl),roRows_mapf (fun _ => rfl)]
theorem own_encMessage (x : Message) : ownCs (encMessage true x) = true := by simp only [encMessage,ownCs,ownC,Bool.and_self,Bool.and_true,Bool.true_and,own_rows (f := encEntry) (fun _ => rfl),own_rows (f := encI) (fun _ => rfl)]
structure Tl16Run where
 n : Node
 told : (List Message)
abbrev encTl16Run (o : Bool) (x : Tl16Run) : List C := [.i .i64 x.n.Id,.i .i64 x.n.Term,.i .i64 x.n.Vote,.i .i64 x.n.Role,.i .i64 x.n.Lead,.row o 3 (x.n.Conf.map encI),.i .i64 x.n.Log.Start,.i .i64 x.n.Log.StartTerm,.row o 51 (x.n.Log.Entries.map encEntry),.i .i64 x.n.Commit,.i .i64 x.n.Clock,.i .i64 x.n.Limit,.row o 3 (x.n.Votes.map encI),.row o 135 (x.n.Peers.map encPeer),.row o 58 (x.told.map (encMessage false))]
theorem ro_encTl16Run (x : Tl16Run) : roCs (encTl16Run true x) = encTl16Run false x := by simp only [encTl16Run,roCs,roC,roRows_mapf (fun _ => rfl),roRows_mapf (fun _ => rfl),roRows_mapf (fun _ => rfl),roRows_mapf (fun _ => rfl),roRows_mapf ro2_encMessage]
theorem ro2_encTl16Run (x : Tl16Run) : roCs (encTl16Run false x) = encTl16Run false x := by simp only [encTl16Run,roCs,roC,roRows_mapf (fun _ => rfl),roRows_mapf (fun _ => rfl),roRows_mapf (fun _ => rfl),roRows_mapf (fun _ => rfl),roRows_mapf ro2_encMessage]
structure Tl16Cluster where
 nodes : (List Node)
 net : (List Message)
abbrev encTl16Cluster (o : Bool) (x : Tl16Cluster) : List C := [.row o 56 (x.nodes.map (encNode false)),.row o 58 (x.net.map (encMessage false))]
theorem ro_encTl16Cluster (x : Tl16Cluster) : roCs (encTl16Cluster true x) = encTl16Cluster false x := by simp only [encTl16Cluster,roCs,roC,roRows_mapf ro2_encNode,roRows_mapf ro2_encMessage]
theorem ro2_encTl16Cluster (x : Tl16Cluster) : roCs (encTl16Cluster false x) = encTl16Cluster false x := by simp only [encTl16Cluster,roCs,roC,roRows_mapf ro2_encNode,roRows_mapf ro2_encMessage]
structure Command where
 Op : Int
 Session : Int
 Seq : Int
 Key : ByteArray
 Value : ByteArray
 Old : ByteArray
abbrev encCommand (x : Command) : List C := [.i .i64 x.Op,.i .i64 x.Session,.i .i64 x.Seq,.s x.Key,.s x.Value,.s x.Old]
theorem bt3 : bytesOf Try.prog 3 ≤ 2048 := of_decide_eq_true (by kernel_rfl)
theorem bt5 : bytesOf Try.prog 5 ≤ 2048 := of_decide_eq_true (by kernel_rfl)
theorem bt51 : bytesOf Try.prog 51 ≤ 2048 := of_decide_eq_true (by kernel_rfl)
theorem bt56 : bytesOf Try.prog 56 ≤ 2048 := of_decide_eq_true (by kernel_rfl)
theorem bt58 : bytesOf Try.prog 58 ≤ 2048 := of_decide_eq_true (by kernel_rfl)
theorem bt135 : bytesOf Try.prog 135 ≤ 2048 := of_decide_eq_true (by kernel_rfl)
def laws_big (N : Nat) (x_1 : (List Int)) : Option (Bool) :=
 some (decide ((x_1.length : Int) > 1048576))
theorem sem_laws_big (N : Nat) (x_1 : (List Int)) (r : Bool) (h : laws_big N x_1 = some r) : Says Try.prog 7 [RO 5 (x_1.map encU)] 0 [] (VB r) [] := by
 unfold laws_big at h
 refine Says.of_run s7 Try.call7 rfl fun B hB => ?_
 have hm : B.m ≤ 1000 := by omega
 refine Run.seq (Run.ops hm (Ops.p rfl (Ops.nil (Run.seq (Run.ops hm (Ops.p rfl (Ops.st (s := 5112) (Ev.lnF rfl) rfl rfl (.p2 rfl rfl (Ops.nil (Run.ret ?_))))))))))
 obtain rfl := someO h
 exact Ends.mkG (.inl rfl) rfl (gh_pk [0] [] hB rfl rfl rfl rfl) rfl rfl
def spec_l01New_l1 (N : Nat) (x_1 : (List Int)) : Nat → Int → Int → Option (Int)
 | 0,_,_ => none
 | m + 1,x_202,x_203 =>
 (if (decide (x_203 < (x_1.length : Int))) = true then
 (if (decide (x_203 < 4000)) = true then
 (at? x_1 x_203).bind fun x_232 =>
 (intD .and .i64 (w64 ((w64 ((w64 (x_202 * 131)) + (w64 (x_232)))) + 7)) 1073741823).bind fun x_233 =>
 spec_l01New_l1 N x_1 m x_233 (w64 (x_203 + 1))
 else
 some x_202)
 else
 some x_202)
def spec_l01New_l1_r (N : Nat) (x_1 : (List Int)) : (List Int) → Int → Int → Option (Int)
 | [],x_202,x_203 =>
 some x_202
 | hd :: tl,x_202,x_203 =>
 (if (decide (x_203 < 4000)) = true then
 (some hd).bind fun x_232 =>
 (intD .and .i64 (w64 ((w64 ((w64 (x_202 * 131)) + (w64 (x_232)))) + 7)) 1073741823).bind fun x_233 =>
 spec_l01New_l1_r N x_1 tl x_233 (w64 (x_203 + 1))
 else
 some x_202)
theorem spec_l01New_l1_rng (N : Nat) (x_1 : (List Int)) (hx : x_1.length ≤ 1099511627776) : ∀ (d k m : Nat) (x_202 : Int),x_1.length = k + d → d < m → spec_l01New_l1 N x_1 m x_202 (k : Int) = spec_l01New_l1_r N x_1 (x_1.drop k) x_202 (k : Int) := by
 intro d
 induction d with
 | zero =>
  intro k m x_202 hd hm
  obtain ⟨m,rfl⟩ : ∃ q,m = q + 1 := ⟨m - 1,by omega⟩
  rw [spec_l01New_l1,if_neg (by simp; omega),List.drop_eq_nil_of_le (by omega),spec_l01New_l1_r]
 | succ d ih =>
  intro k m x_202 hd hm
  obtain ⟨m,rfl⟩ : ∃ q,m = q + 1 := ⟨m - 1,by omega⟩
  have hk : k < x_1.length := by omega
  rw [spec_l01New_l1,if_pos (by simp; omega),List.drop_eq_getElem_cons hk,spec_l01New_l1_r]
  have h1 := at_lt hk
  have h2 := w64_succ (k := k) (by omega)
  have h3 := ih (k + 1) m
  simp only [h1,h2,h3 _ (by omega) (by omega)]
theorem spec_l01New_l1_eq {N : Nat} (x_1 : (List Int)) (hx : x_1.length ≤ 1099511627776) (hN : x_1.length < N) (x_202 : Int) : spec_l01New_l1 N x_1 N x_202 0 = spec_l01New_l1_r N x_1 x_1 x_202 0 := spec_l01New_l1_rng N x_1 hx x_1.length 0 N x_202 (by omega) hN
def spec_l01New (N : Nat) (x_1 : (List Int)) : Option (Tl01Cur) :=
 joinP (fun (v_200 : Int) =>
 some (Tl01Cur.mk x_1 0 v_200)) fun j_200 =>
 (spec_l01New_l1 N x_1 N (w64 (10301 + (x_1.length : Int))) 0).bind (fun v_218 => j_200 v_218)
theorem sem_spec_l01New (N : Nat) (x_1 : (List Int)) (r : Tl01Cur) (h : spec_l01New N x_1 = some r) : Says Try.prog 39 [RO 5 (x_1.map encU)] 0 [] (.ptr 0 0) [(0,.box [RO 5 (r.b.map encU),VI r.i,VI r.h])] := by
 unfold spec_l01New at h
 refine Says.of_run s39 Try.call39 rfl fun B hB => ?_
 have hm : B.m ≤ 1000 := by omega
 refine Run.seq (Run.ops hm (Ops.p rfl (Ops.nil (Run.seq (Run.ops hm (Ops.p rfl (Ops.st (s := 5112) (Ev.lnF rfl) rfl rfl (.p2 rfl rfl (Ops.nil (Run.seqO h (fun v_200 => [(0,RO 5 (x_1.map encU)),(3,VI v_200)]) (fun (v_200 : Int) => []) (fun h => ?_) (fun v_200 h => ?_)))))))))))
 ·refine Run.seq (Run.ops hm (Ops.p rfl (Ops.nil (Run.block ?_))))
  obtain ⟨res_218,h,hk_218⟩ := bindO h
  refine Run.loop (n := N) (fun m_218 fr σ => ∃ (x_202 : Int),∃ (x_203 : Int),spec_l01New_l1 N x_1 m_218 x_202 x_203 = some res_218 ∧ fr = [(0,RO 5 (x_1.map encU)),(3,VI x_202),(4,VI x_203)] ∧ σ = []) (gh_pk [0,3,4] [] hB rfl rfl rfl rfl) ⟨_,_,h,rfl,rfl⟩ ?_
  rintro m_218 fr σ ⟨x_202,x_203,h,rfl,rfl⟩
  obtain _ | m_218 := m_218
  ·rw [spec_l01New_l1] at h; cases h
  rw [spec_l01New_l1] at h
  refine Run.seq (Run.seq (Run.ops hm (.p2 rfl rfl (Ops.st (s := 13320) (Ev.lnF rfl) rfl rfl (.p2 rfl rfl (Ops.askO (x := .t 12) rfl h (fun g_224 h => ?_) (fun g_224 h => ?_)))))))
  ·refine Ops.gp rfl g_224 rfl (Ops.gp rfl g_224 rfl (Ops.st (s := 13400) (.pkT rfl g_224 rfl) rfl rfl (Ops.nil (Run.condO rfl h (fun g_225 h => ?_) (fun g_225 h => ?_)))))
   ·refine Run.skip (Run.seq (Run.block (Run.ops hm (.p3 rfl rfl rfl (Ops.p rfl ?_)))))
    obtain ⟨x_232,hx_232,h⟩ := bindO h
    refine Ops.st (s := 21544) (Ev.iaF rfl rfl hx_232) rfl rfl (.p3 rfl rfl rfl (Ops.p rfl ?_))
    obtain ⟨x_233,hx_233,h⟩ := bindO h
    exact Ops.st (s := 21624) (.bin rfl rfl hx_233) rfl rfl (Ops.p rfl (Ops.nil (Run.ops hm (.p3 rfl rfl rfl (Ops.nil (⟨m_218,Nat.lt_succ_self m_218,_,_,(gh_pk [0,3,4] [] hB rfl rfl rfl rfl),_,_,h,rfl,rfl⟩))))))
   ·refine Run.exit ?_
    obtain rfl := someO h
    have h := hk_218
    exact ⟨_,_,(gh_pk [0,3] [] hB rfl rfl rfl rfl),_,h,rfl,rfl⟩
  ·refine Ops.gn rfl g_224 (Ops.gn rfl g_224 (Ops.st (s := 13400) (.pkF rfl g_224 rfl) rfl rfl (Ops.nil (Run.condF rfl rfl (Run.exit ?_)))))
   obtain rfl := someO h
   have h := hk_218
   exact ⟨_,_,(gh_pk [0,3] [] hB rfl rfl rfl rfl),_,h,rfl,rfl⟩
 ·refine Run.seq (Run.ops hm (.p2 rfl rfl (Ops.st (s := 25608) (.bd rfl rfl) rfl rfl (Ops.st (s := 25624) (.bx rfl rfl) rfl rfl (Ops.p rfl (Ops.nil (Run.ret ?_)))))))
  obtain rfl := someO h
  exact Ends.mkG (.inl rfl) rfl (gh_pk [0] [25624] hB rfl rfl rfl rfl) rfl rfl
def spec_l16Steps (N : Nat) (x_1 : (List Int)) : Option (Int) :=
 (intD .quo .i64 (x_1.length : Int) 4).bind fun x_109 =>
 (if (decide ((w64 (10 + x_109)) > 70)) = true then
 some 70
 else
 some (w64 (10 + x_109)))
theorem sem_spec_l16Steps (N : Nat) (x_1 : (List Int)) (r : Int) (h : spec_l16Steps N x_1 = some r) : Says Try.prog 65 [RO 5 (x_1.map encU)] 0 [] (VI r) [] := by
 unfold spec_l16Steps at h
 refine Says.of_run s65 Try.call65 rfl fun B hB => ?_
 have hm : B.m ≤ 1000 := by omega
 refine Run.seq (Run.ops hm (Ops.p rfl (Ops.nil (Run.seq (Run.ops hm (Ops.p rfl (Ops.st (s := 5112) (Ev.lnF rfl) rfl rfl ?_)))))))
 obtain ⟨x_109,hx_109,h⟩ := bindO h
 refine Ops.st (s := 5128) (.bin rfl rfl hx_109) rfl rfl (.p2 rfl rfl (Ops.nil (Run.seq (Run.seq (Run.ops hm (.p2 rfl rfl (Ops.nil (Run.condO rfl h (fun g_111 h => ?_) (fun g_111 h => ?_)))))))))
 ·refine Run.seq (Run.ops hm (Ops.p rfl (Ops.nil (Run.ret ?_))))
  obtain rfl := someO h
  exact Ends.mkG (.inl rfl) rfl (gh_pk [0] [] hB rfl rfl rfl rfl) rfl rfl
 ·refine Run.skip (Run.seq (Run.ops hm (.p2 rfl rfl (Ops.nil (Run.ret ?_)))))
  obtain rfl := someO h
  exact Ends.mkG (.inl rfl) rfl (gh_pk [0] [] hB rfl rfl rfl rfl) rfl rfl
def spec_l01Byte (N : Nat) (x_1 : Tl01Cur) : Option (Int × Tl01Cur) :=
 (intSh .shr .i64 (w64 ((w64 (x_1.h * 6364136223846793005)) + 1442695040888963407)) 33).bind fun x_147 =>
 (intSh .shr .i64 (w64 ((w64 (x_1.h * 6364136223846793005)) + 1442695040888963407)) 45).bind fun x_148 =>
 (intD .xor .i64 x_147 x_148).bind fun x_149 =>
 (intD .and .i64 x_149 255).bind fun x_150 =>
 joinP (fun (v_160 : Int × Int) =>
 some (v_160.1,(Tl01Cur.mk x_1.b v_160.2 (w64 ((w64 (x_1.h * 6364136223846793005)) + 1442695040888963407))))) fun j_160 =>
 (if (decide (x_1.i < (x_1.b.length : Int))) = true then
 (at? x_1.b x_1.i).bind fun x_168 =>
 (intD .and .i64 (w64 (x_150 + (w64 (x_168)))) 255).bind fun x_169 =>
 j_160 (x_169,w64 (x_1.i + 1))
 else
 j_160 (x_150,x_1.i))
theorem sem_spec_l01Byte (N : Nat) (x_1 : Tl01Cur) (r : Int × Tl01Cur) (h : spec_l01Byte N x_1 = some r) : Says Try.prog 58 [.ptr 0 0] 1 [(0,.box [RO 5 (x_1.b.map encU),VI x_1.i,VI x_1.h])] (VI r.1) [(0,.box [RO 5 (r.2.b.map encU),VI r.2.i,VI r.2.h])] := by
 unfold spec_l01Byte at h
 refine Says.of_run s58 Try.call58 rfl fun B hB => ?_
 have hm : B.m ≤ 1000 := by omega
 refine Run.seq (Run.ops hm (Ops.p rfl (Ops.nil (Run.seq (Run.ops hm (.p3 rfl rfl rfl (.p3 rfl rfl rfl (.p3 rfl rfl rfl (Ops.s0 (s := 5240) (.sto rfl rfl rfl rfl rfl rfl) rfl rfl (Ops.nil (Run.seq (Run.draw hm hmix (OpsD.p rfl (OpsD.p rfl (OpsD.p rfl (OpsD.p rfl ?_))))))))))))))))
 obtain ⟨x_147,hx_147,h⟩ := bindO h
 refine OpsD.st (s := 9256) (.sh rfl rfl hx_147) rfl rfl (OpsD.p rfl (OpsD.p rfl (OpsD.p rfl (OpsD.p rfl ?_))))
 obtain ⟨x_148,hx_148,h⟩ := bindO h
 refine OpsD.st (s := 9336) (.sh rfl rfl hx_148) rfl rfl ?_
 obtain ⟨x_149,hx_149,h⟩ := bindO h
 refine OpsD.st (s := 9352) (.bin rfl rfl hx_149) rfl rfl ?_
 obtain ⟨x_150,hx_150,h⟩ := bindO h
 refine OpsD.st (s := 9368) (.bin rfl rfl hx_150) rfl rfl (OpsD.p rfl (OpsD.nil ⟨by kernel_rfl,?_⟩))
 refine Run.seqO h (fun v_160 => [(3,VI v_160.1)]) (fun (v_160 : Int × Int) => [(0,.box [RO 5 (x_1.b.map encU),VI v_160.2,VI (w64 ((w64 (x_1.h * 6364136223846793005)) + 1442695040888963407))])]) (fun h => ?_) (fun v_160 h => ?_)
 ·refine Run.seq (Run.draw hm hmix (OpsD.p rfl (OpsD.p rfl (OpsD.p rfl (OpsD.p rfl (OpsD.p rfl (OpsD.p rfl (OpsD.p rfl (OpsD.p rfl (OpsD.st (s := 13416) (Ev.lnF rfl) rfl rfl (OpsD.p rfl (OpsD.nil ⟨by kernel_rfl,?_⟩))))))))))))
  refine Run.condO rfl h (fun g_161 h => ?_) (fun g_161 h => ?_)
  ·refine Run.seq (Run.draw hm hmix (OpsD.p rfl (OpsD.p rfl (OpsD.p rfl (OpsD.p rfl (OpsD.p rfl (OpsD.p rfl (OpsD.p rfl (OpsD.p rfl (OpsD.p rfl ?_))))))))))
   obtain ⟨x_168,hx_168,h⟩ := bindO h
   refine OpsD.st (s := 17528) (Ev.iaF rfl rfl hx_168) rfl rfl (OpsD.p rfl (OpsD.p rfl (OpsD.p rfl ?_)))
   obtain ⟨x_169,hx_169,h⟩ := bindO h
   refine OpsD.st (s := 17592) (.bin rfl rfl hx_169) rfl rfl (OpsD.p rfl (OpsD.nil ⟨by kernel_rfl,?_⟩))
   exact Run.ops hm (.p3 rfl rfl rfl (.p3 rfl rfl rfl (.p2 rfl rfl (Ops.s0 (s := 21608) (.sto rfl rfl rfl rfl rfl rfl) rfl rfl (Ops.nil (⟨_,_,(gh_pk [3] [0] hB rfl rfl rfl rfl),_,h,rfl,rfl⟩))))))
  ·exact Run.skip (⟨_,_,(gh_pk [3] [0] hB rfl rfl rfl rfl),_,h,rfl,rfl⟩)
 ·refine Run.seq (Run.ops hm (.p2 rfl rfl (Ops.nil (Run.ret ?_))))
  obtain rfl := someO h
  exact Ends.mkG (.inl rfl) rfl (gh_pk [0] [0] hB rfl rfl rfl rfl) rfl rfl
def spec_l01Below (N : Nat) (x_1 : Tl01Cur) (x_2 : Int) : Option (Int × Tl01Cur) :=
 (if (decide (x_2 ≤ 0)) = true then
 some (0,x_1)
 else
 (if (decide (x_2 ≤ 256)) = true then
 (spec_l01Byte N x_1).bind fun y_140 =>
 (intD .rem .i64 y_140.1 x_2).bind fun x_141 =>
 some (x_141,y_140.2)
 else
 (spec_l01Byte N x_1).bind fun y_145 =>
 (spec_l01Byte N y_145.2).bind fun y_149 =>
 (spec_l01Byte N y_149.2).bind fun y_153 =>
 (spec_l01Byte N y_153.2).bind fun y_157 =>
 (intD .rem .i64 (w64 ((w64 ((w64 ((w64 (y_145.1 * 16777216)) + (w64 (y_149.1 * 65536)))) + (w64 (y_153.1 * 256)))) + y_157.1)) x_2).bind fun x_159 =>
 some (x_159,y_157.2)))
theorem sem_spec_l01Below (N : Nat) (x_1 : Tl01Cur) (x_2 : Int) (r : Int × Tl01Cur) (h : spec_l01Below N x_1 x_2 = some r) : Says Try.prog 59 [.ptr 0 0,VI x_2] 1 [(0,.box [RO 5 (x_1.b.map encU),VI x_1.i,VI x_1.h])] (VI r.1) [(0,.box [RO 5 (r.2.b.map encU),VI r.2.i,VI r.2.h])] := by
 unfold spec_l01Below at h
 refine Says.of_run s59 Try.call59 rfl fun B hB => ?_
 have hm : B.m ≤ 1000 := by omega
 refine Run.seq (Run.ops hm (Ops.p rfl (Ops.nil (Run.seq (Run.seq (Run.ops hm (.p2 rfl rfl (Ops.nil (Run.condO rfl h (fun g_131 h => ?_) (fun g_131 h => ?_))))))))))
 ·refine Run.seq (Run.ops hm (Ops.p rfl (Ops.nil (Run.ret ?_))))
  obtain rfl := someO h
  exact Ends.mkG (.inl rfl) rfl (gh_pk [0] [0] hB rfl rfl rfl rfl) rfl rfl
 ·refine Run.skip (Run.seq (Run.seq (Run.ops hm (.p2 rfl rfl (Ops.nil (Run.condO rfl h (fun g_137 h => ?_) (fun g_137 h => ?_)))))))
  ·refine Run.seq (Run.ops hm (Ops.p rfl ?_))
   obtain ⟨y_140,hy_140,h⟩ := bindO h
   refine Ops.st (s := 17400) (Ev.call [0] [] 0 (sem_spec_l01Byte _ _ _ hy_140) rfl rfl (.cons (.ptr rfl) .nil) rfl (.inl rfl) rfl rfl) rfl rfl (Ops.p rfl ?_)
   obtain ⟨x_141,hx_141,h⟩ := bindO h
   refine Ops.st (s := 17432) (.bin rfl rfl hx_141) rfl rfl (Ops.p rfl (Ops.nil (Run.ret ?_)))
   obtain rfl := someO h
   exact Ends.mkG (.inl rfl) rfl (gh_pk [0] [0] hB rfl rfl rfl rfl) rfl rfl
  ·refine Run.skip (Run.seq (Run.ops hm (Ops.p rfl ?_)))
   obtain ⟨y_145,hy_145,h⟩ := bindO h
   refine Ops.st (s := 21496) (Ev.call [0] [] 0 (sem_spec_l01Byte _ _ _ hy_145) rfl rfl (.cons (.ptr rfl) .nil) rfl (.inl rfl) rfl rfl) rfl rfl (Ops.p rfl (Ops.nil (Run.seq (Run.ops hm (Ops.p rfl ?_)))))
   obtain ⟨y_149,hy_149,h⟩ := bindO h
   refine Ops.st (s := 25592) (Ev.call [0] [] 0 (sem_spec_l01Byte _ _ _ hy_149) rfl rfl (.cons (.ptr rfl) .nil) rfl (.inl rfl) rfl rfl) rfl rfl (Ops.p rfl (Ops.nil (Run.seq (Run.ops hm (Ops.p rfl ?_)))))
   obtain ⟨y_153,hy_153,h⟩ := bindO h
   refine Ops.st (s := 29688) (Ev.call [0] [] 0 (sem_spec_l01Byte _ _ _ hy_153) rfl rfl (.cons (.ptr rfl) .nil) rfl (.inl rfl) rfl rfl) rfl rfl (Ops.p rfl (Ops.nil (Run.seq (Run.ops hm (Ops.p rfl ?_)))))
   obtain ⟨y_157,hy_157,h⟩ := bindO h
   refine Ops.st (s := 33784) (Ev.call [0] [] 0 (sem_spec_l01Byte _ _ _ hy_157) rfl rfl (.cons (.ptr rfl) .nil) rfl (.inl rfl) rfl rfl) rfl rfl (Ops.p rfl (Ops.nil (Run.seq (Run.ops hm (.p3 rfl rfl rfl (.p3 rfl rfl rfl (.p3 rfl rfl rfl (.p2 rfl rfl ?_))))))))
   obtain ⟨x_159,hx_159,h⟩ := bindO h
   refine Ops.st (s := 38040) (.bin rfl rfl hx_159) rfl rfl (Ops.p rfl (Ops.nil (Run.ret ?_)))
   obtain rfl := someO h
   exact Ends.mkG (.inl rfl) rfl (gh_pk [0] [0] hB rfl rfl rfl rfl) rfl rfl
def spec_l01Once (N : Nat) (x_1 : Tl01Cur) (x_2 : Int) : Option (Bool × Tl01Cur) :=
 (spec_l01Below N x_1 x_2).bind fun y_103 =>
 some ((y_103.1 == 0),y_103.2)
theorem sem_spec_l01Once (N : Nat) (x_1 : Tl01Cur) (x_2 : Int) (r : Bool × Tl01Cur) (h : spec_l01Once N x_1 x_2 = some r) : Says Try.prog 67 [.ptr 0 0,VI x_2] 1 [(0,.box [RO 5 (x_1.b.map encU),VI x_1.i,VI x_1.h])] (VB r.1) [(0,.box [RO 5 (r.2.b.map encU),VI r.2.i,VI r.2.h])] := by
 unfold spec_l01Once at h
 refine Says.of_run s67 Try.call67 rfl fun B hB => ?_
 have hm : B.m ≤ 1000 := by omega
 refine Run.seq (Run.ops hm (Ops.p rfl (Ops.nil (Run.seq (Run.ops hm (.p2 rfl rfl ?_))))))
 obtain ⟨y_103,hy_103,h⟩ := bindO h
 refine Ops.st (s := 5128) (Ev.call [0] [] 0 (sem_spec_l01Below _ _ _ _ hy_103) rfl rfl (.cons (.ptr rfl) (.d1 .nil)) rfl (.inl rfl) rfl rfl) rfl rfl (.p2 rfl rfl (Ops.nil (Run.ret ?_)))
 obtain rfl := someO h
 exact Ends.mkG (.inl rfl) rfl (gh_pk [0] [0] hB rfl rfl rfl rfl) rfl rfl
def spec_l07Conf_l1 (N : Nat) : Nat → Int → (List Int) → Int → Int → (List Int) → Option ((List Int) × Int × Int × (List Int))
 | 0,_,_,_,_,_ => none
 | m + 1,x_208,x_209,x_210,x_211,x_212 =>
 (if (decide (x_208 ≤ 4)) = true then
 joinP (fun (v_235 : (List Int) × Int × Int × (List Int)) =>
 spec_l07Conf_l1 N m (w64 (x_208 + 1)) v_235.1 v_235.2.1 v_235.2.2.1 v_235.2.2.2) fun j_235 =>
 (spec_l01Once N (Tl01Cur.mk x_209 x_210 x_211) 2).bind fun y_237 =>
 (if y_237.1 = true then
 (cat? x_212 ([x_208] : List Int)).bind fun x_240 =>
 j_235 (y_237.2.b,y_237.2.i,y_237.2.h,x_240)
 else
 j_235 (y_237.2.b,y_237.2.i,y_237.2.h,x_212))
 else
 some (x_209,x_210,x_211,x_212))
def spec_l07Conf (N : Nat) (x_1 : Tl01Cur) : Option ((List Int) × Tl01Cur) :=
 joinP (fun (v_207 : (List Int) × Int × Int × (List Int)) =>
 joinP (fun (v_244 : (List Int)) =>
 some (v_244,(Tl01Cur.mk v_207.1 v_207.2.1 v_207.2.2.1))) fun j_244 =>
 (if (((v_207.2.2.2.length : Nat) : Int) == 0) = true then
 (cat? v_207.2.2.2 ([1] : List Int)).bind fun x_247 =>
 j_244 x_247
 else
 j_244 v_207.2.2.2)) fun j_207 =>
 (spec_l07Conf_l1 N N 1 x_1.b x_1.i x_1.h ([] : List Int)).bind (fun v_226 => j_207 (v_226.1,v_226.2.1,v_226.2.2.1,v_226.2.2.2))
theorem sem_spec_l07Conf (N : Nat) (x_1 : Tl01Cur) (r : (List Int) × Tl01Cur) (h : spec_l07Conf N x_1 = some r) : Says Try.prog 141 [.ptr 0 0] 1 [(0,.box [RO 5 (x_1.b.map encU),VI x_1.i,VI x_1.h])] (.sl 1 3 0 r.1.length) [(0,.box [RO 5 (r.2.b.map encU),VI r.2.i,VI r.2.h]),(1,.vec 3 (r.1.map encI))] := by
 unfold spec_l07Conf at h
 refine Says.of_run s141 Try.call141 rfl fun B hB => ?_
 have hm : B.m ≤ 1000 := by omega
 refine Run.seq (Run.ops hm (Ops.p rfl (Ops.nil (Run.seq (Run.ops hm (Ops.st (s := 5096) (Ev.bsW (ys := ([] : List Int)) (f := encI) rfl .nil rfl rfl rfl rfl rfl) rfl rfl (Ops.p rfl (Ops.nil (Run.seqO h (fun v_207 => [(3,.sl 1 3 0 v_207.2.2.2.length)]) (fun (v_207 : (List Int) × Int × Int × (List Int)) => [(0,.box [RO 5 (v_207.1.map encU),VI v_207.2.1,VI v_207.2.2.1]),(1,.vec 3 (v_207.2.2.2.map encI))]) (fun h => ?_) (fun v_207 h => ?_))))))))))
 ·refine Run.seq (Run.ops hm (Ops.p rfl (Ops.nil (Run.block ?_))))
  obtain ⟨res_226,h,hk_226⟩ := bindO h
  refine Run.loop (n := N) (fun m_226 fr σ => ∃ (x_208 : Int),∃ (x_209 : (List Int)),∃ (x_210 : Int),∃ (x_211 : Int),∃ (x_212 : (List Int)),spec_l07Conf_l1 N m_226 x_208 x_209 x_210 x_211 x_212 = some res_226 ∧ fr = [(0,.ptr 0 0),(3,.sl 1 3 0 x_212.length),(4,VI x_208)] ∧ σ = [(0,.box [RO 5 (x_209.map encU),VI x_210,VI x_211]),(1,.vec 3 (x_212.map encI))]) (gh_pk [0,3,4] [0,5096] hB rfl rfl rfl rfl) ⟨_,_,_,_,_,h,rfl,rfl⟩ ?_
  rintro m_226 fr σ ⟨x_208,x_209,x_210,x_211,x_212,h,rfl,rfl⟩
  obtain _ | m_226 := m_226
  ·rw [spec_l07Conf_l1] at h; cases h
  rw [spec_l07Conf_l1] at h
  refine Run.seq (Run.seq (Run.ops hm (.p2 rfl rfl (Ops.nil (Run.condO rfl h (fun g_229 h => ?_) (fun g_229 h => ?_))))))
  ·refine Run.skip (Run.seqO h (fun v_235 => [(0,.ptr 0 0),(3,.sl 1 3 0 v_235.2.2.2.length),(4,VI x_208)]) (fun (v_235 : (List Int) × Int × Int × (List Int)) => [(0,.box [RO 5 (v_235.1.map encU),VI v_235.2.1,VI v_235.2.2.1]),(1,.vec 3 (v_235.2.2.2.map encI))]) (fun h => ?_) (fun v_235 h => ?_))
   ·refine Run.block (Run.seq (Run.ops hm (Ops.p rfl ?_)))
    obtain ⟨y_237,hy_237,h⟩ := bindO h
    refine Ops.st (s := 21496) (Ev.call [0] [] 0 (sem_spec_l01Once _ _ _ _ hy_237) rfl rfl (.cons (.ptr rfl) (.d1 .nil)) rfl (.inl rfl) rfl rfl) rfl rfl (Ops.nil (Run.condO rfl h (fun g_238 h => ?_) (fun g_238 h => ?_)))
    ·refine Run.ops hm (.p2 rfl rfl (Ops.st (s := 25608) (Ev.bsW (ys := ([x_208] : List Int)) (f := encI) rfl (.d1 .nil) rfl rfl rfl rfl rfl) rfl rfl ?_))
     obtain ⟨x_240,hx_240,h⟩ := bindO h
     exact Ops.st (s := 25624) (Ev.apW (f := encI) (ontoW rfl rfl rfl) (addsW rfl rfl rfl (fun _ => rfl)) rfl bt3 rfl hx_240) rfl rfl (Ops.p rfl (Ops.nil (⟨_,_,(gh_pk [0,3,4] [0,25624] hB rfl rfl rfl rfl),_,h,rfl,rfl⟩)))
    ·exact Run.skip (⟨_,_,(gh_pk [0,3,4] [0,1] hB rfl rfl rfl rfl),_,h,rfl,rfl⟩)
   ·exact Run.ops hm (.p3 rfl rfl rfl (Ops.nil (⟨m_226,Nat.lt_succ_self m_226,_,_,(gh_pk [0,3,4] [0,1] hB rfl rfl rfl rfl),_,_,_,_,_,h,rfl,rfl⟩)))
  ·refine Run.exit ?_
   obtain rfl := someO h
   have h := hk_226
   exact ⟨_,_,(gh_pk [3] [0,1] hB rfl rfl rfl rfl),_,h,rfl,rfl⟩
 ·refine Run.seqO h (fun v_244 => [(3,.sl 1 3 0 v_244.length)]) (fun (v_244 : (List Int)) => [(0,.box [RO 5 (v_207.1.map encU),VI v_207.2.1,VI v_207.2.2.1]),(1,.vec 3 (v_244.map encI))]) (fun h => ?_) (fun v_244 h => ?_)
  ·refine Run.seq (Run.ops hm (.p3 rfl rfl rfl (Ops.nil (Run.condO rfl h (fun g_245 h => ?_) (fun g_245 h => ?_)))))
   ·refine Run.ops hm (Ops.p rfl (Ops.st (s := 33784) (Ev.bsW (ys := ([1] : List Int)) (f := encI) rfl (.d1 .nil) rfl rfl rfl rfl rfl) rfl rfl ?_))
    obtain ⟨x_247,hx_247,h⟩ := bindO h
    exact Ops.st (s := 33800) (Ev.apW (f := encI) (ontoW rfl rfl rfl) (addsW rfl rfl rfl (fun _ => rfl)) rfl bt3 rfl hx_247) rfl rfl (Ops.p rfl (Ops.nil (⟨_,_,(gh_pk [3] [0,33800] hB rfl rfl rfl rfl),_,h,rfl,rfl⟩)))
   ·exact Run.skip (⟨_,_,(gh_pk [3] [0,1] hB rfl rfl rfl rfl),_,h,rfl,rfl⟩)
  ·refine Run.seq (Run.ops hm (.p2 rfl rfl (Ops.nil (Run.ret ?_))))
   obtain rfl := someO h
   exact Ends.mkG (.inl rfl) rfl (gh_pk [0] [0,1] hB rfl rfl rfl rfl) rfl rfl
def spec_l01In (N : Nat) (x_1 : Int) (x_2 : Int) (x_3 : Int) : Option (Bool) :=
 (if (decide (x_1 ≥ x_2)) = true then
 some (decide (x_1 ≤ x_3))
 else
 some false)
theorem sem_spec_l01In (N : Nat) (x_1 : Int) (x_2 : Int) (x_3 : Int) (r : Bool) (h : spec_l01In N x_1 x_2 x_3 = some r) : Says Try.prog 61 [VI x_1,VI x_2,VI x_3] 0 [] (VB r) [] := by
 unfold spec_l01In at h
 refine Says.of_run s61 Try.call61 rfl fun B hB => ?_
 have hm : B.m ≤ 1000 := by omega
 refine Run.seq (Run.ops hm (Ops.p rfl (Ops.nil (Run.seq (Run.ops hm (.p3 rfl rfl rfl (Ops.p rfl (Ops.askO (x := .t 10) rfl h (fun g_103 h => ?_) (fun g_103 h => ?_)))))))))
 ·refine Ops.gp rfl g_103 rfl (Ops.gp rfl g_103 rfl (Ops.gp rfl g_103 rfl (Ops.st (s := 5208) (.pkT rfl g_103 rfl) rfl rfl (Ops.p rfl (Ops.nil (Run.ret ?_))))))
  obtain rfl := someO h
  exact Ends.mkG (.inl rfl) rfl (gh_pk [0] [] hB rfl rfl rfl rfl) rfl rfl
 ·refine Ops.gn rfl g_103 (Ops.gn rfl g_103 (Ops.gn rfl g_103 (Ops.st (s := 5208) (.pkF rfl g_103 rfl) rfl rfl (Ops.p rfl (Ops.nil (Run.ret ?_))))))
  obtain rfl := someO h
  exact Ends.mkG (.inl rfl) rfl (gh_pk [0] [] hB rfl rfl rfl rfl) rfl rfl
def spec_l07Rise_l1 (N : Nat) (x_1 : (List Int)) (x_2 : Int) (x_3 : Int) : Nat → Int → Option ((Bool) ⊕ (Unit))
 | 0,_ => none
 | m + 1,x_300 =>
 (if (decide (x_300 < (x_1.length : Int))) = true then
 joinP (fun (v_348 : Unit) =>
 spec_l07Rise_l1 N x_1 x_2 x_3 m (w64 (x_300 + 1))) fun j_348 =>
 (at? x_1 x_300).bind fun x_355 =>
 (spec_l01In N x_355 x_2 x_3).bind fun y_356 =>
 (if (!y_356) = true then
 some (Sum.inl false)
 else
 (if (decide (x_300 > 0)) = true then
 (at? x_1 (w64 (x_300 - 1))).bind fun x_359 =>
 (at? x_1 x_300).bind fun x_360 =>
 (if (decide (x_359 ≥ x_360)) = true then
 some (Sum.inl false)
 else
 j_348 ())
 else
 j_348 ()))
 else
 some (Sum.inr ()))
def spec_l07Rise_l1_r (N : Nat) (x_1 : (List Int)) (x_2 : Int) (x_3 : Int) : (List Int) → Int → Option ((Bool) ⊕ (Unit))
 | [],x_300 =>
 some (Sum.inr ())
 | hd :: tl,x_300 =>
 joinP (fun (v_348 : Unit) =>
 spec_l07Rise_l1_r N x_1 x_2 x_3 tl (w64 (x_300 + 1))) fun j_348 =>
 (some hd).bind fun x_355 =>
 (spec_l01In N x_355 x_2 x_3).bind fun y_356 =>
 (if (!y_356) = true then
 some (Sum.inl false)
 else
 (if (decide (x_300 > 0)) = true then
 (at? x_1 (w64 (x_300 - 1))).bind fun x_359 =>
 (some hd).bind fun x_360 =>
 (if (decide (x_359 ≥ x_360)) = true then
 some (Sum.inl false)
 else
 j_348 ())
 else
 j_348 ()))
theorem spec_l07Rise_l1_rng (N : Nat) (x_1 : (List Int)) (x_2 : Int) (x_3 : Int) (hx : x_1.length ≤ 1099511627776) : ∀ (d k m : Nat),x_1.length = k + d → d < m → spec_l07Rise_l1 N x_1 x_2 x_3 m (k : Int) = spec_l07Rise_l1_r N x_1 x_2 x_3 (x_1.drop k) (k : Int) := by
 intro d
 induction d with
 | zero =>
  intro k m hd hm
  obtain ⟨m,rfl⟩ : ∃ q,m = q + 1 := ⟨m - 1,by omega⟩
  rw [spec_l07Rise_l1,if_neg (by simp; omega),List.drop_eq_nil_of_le (by omega),spec_l07Rise_l1_r]
 | succ d ih =>
  intro k m hd hm
  obtain ⟨m,rfl⟩ : ∃ q,m = q + 1 := ⟨m - 1,by omega⟩
  have hk : k < x_1.length := by omega
  rw [spec_l07Rise_l1,if_pos (by simp; omega),List.drop_eq_getElem_cons hk,spec_l07Rise_l1_r]
  have h1 := at_lt hk
  have h2 := w64_succ (k := k) (by omega)
  have h3 := ih (k + 1) m
  simp only [h1,h2,h3 (by omega) (by omega)]
theorem spec_l07Rise_l1_eq {N : Nat} (x_1 : (List Int)) (x_2 : Int) (x_3 : Int) (hx : x_1.length ≤ 1099511627776) (hN : x_1.length < N) : spec_l07Rise_l1 N x_1 x_2 x_3 N 0 = spec_l07Rise_l1_r N x_1 x_2 x_3 x_1 0 := spec_l07Rise_l1_rng N x_1 x_2 x_3 hx x_1.length 0 N (by omega) hN
def spec_l07Rise (N : Nat) (x_1 : (List Int)) (x_2 : Int) (x_3 : Int) : Option (Bool) :=
 joinP (fun (v_296 : Unit) =>
 some true) fun j_296 =>
 (spec_l07Rise_l1 N x_1 x_2 x_3 N 0).bind (Sum.elim (fun v_330 => some v_330) (fun (v_331 : Unit) => j_296 ()))
theorem sem_spec_l07Rise (N : Nat) (x_1 : (List Int)) (x_2 : Int) (x_3 : Int) (r : Bool) (h : spec_l07Rise N x_1 x_2 x_3 = some r) : Says Try.prog 152 [RO 3 (x_1.map encI),VI x_2,VI x_3] 0 [] (VB r) [] := by
 unfold spec_l07Rise at h
 refine Says.of_run s152 Try.call152 rfl fun B hB => ?_
 have hm : B.m ≤ 1000 := by omega
 refine Run.seq (Run.ops hm (Ops.p rfl (Ops.nil (Run.seqO h (fun v_296 => []) (fun (v_296 : Unit) => []) (fun h => ?_) (fun v_296 h => ?_)))))
 ·refine Run.seq (Run.ops hm (Ops.p rfl (Ops.nil (Run.block ?_))))
  obtain ⟨res_331,h,hk_331⟩ := bindO h
  refine Run.loop (n := N) (fun m_331 fr σ => ∃ (x_300 : Int),spec_l07Rise_l1 N x_1 x_2 x_3 m_331 x_300 = some res_331 ∧ fr = [(0,RO 3 (x_1.map encI)),(1,VI x_2),(2,VI x_3),(7,VI x_300)] ∧ σ = []) (gh_pk [0,1,2,7] [] hB rfl rfl rfl rfl) ⟨_,h,rfl,rfl⟩ ?_
  rintro m_331 fr σ ⟨x_300,h,rfl,rfl⟩
  obtain _ | m_331 := m_331
  ·rw [spec_l07Rise_l1] at h; cases h
  rw [spec_l07Rise_l1] at h
  refine Run.seq (Run.seq (Run.ops hm (.p2 rfl rfl (Ops.st (s := 9224) (Ev.lnF rfl) rfl rfl (Ops.p rfl (Ops.nil (Run.condO rfl h (fun g_334 h => ?_) (fun g_334 h => ?_))))))))
  ·refine Run.skip (Run.seqO h (fun v_348 => [(0,RO 3 (x_1.map encI)),(1,VI x_2),(2,VI x_3),(7,VI x_300)]) (fun (v_348 : Unit) => []) (fun h => ?_) (fun v_348 h => ?_))
   ·refine Run.block (Run.seq (Run.draw hm hmix (OpsD.p rfl (OpsD.p rfl ?_))))
    obtain ⟨x_355,hx_355,h⟩ := bindO h
    refine OpsD.st (s := 17416) (Ev.iaF rfl rfl hx_355) rfl rfl (OpsD.p rfl (OpsD.p rfl (OpsD.p rfl ?_)))
    obtain ⟨y_356,hy_356,h⟩ := bindO h
    refine OpsD.st (s := 17480) (Ev.call [] [] 0 (sem_spec_l01In _ _ _ _ _ hy_356) rfl rfl (.d2 (.d1 .nil)) rfl (.inl rfl) rfl rfl) rfl rfl (OpsD.p rfl (OpsD.p rfl (OpsD.askO (x := .t 22) rfl h (fun g_357 h => ?_) (fun g_357 h => ?_))))
    ·refine OpsD.gn rfl g_357 (OpsD.gn rfl g_357 (OpsD.gn rfl g_357 (OpsD.gu rfl (OpsD.gu rfl (OpsD.gu rfl (OpsD.gu rfl (OpsD.gu rfl (OpsD.gu rfl (OpsD.gu rfl (OpsD.gu rfl (OpsD.gu rfl (OpsD.gu rfl (OpsD.gn rfl g_357 (OpsD.st (s := 17752) (.pkT rfl g_357 rfl) rfl rfl (OpsD.nil ⟨by kernel_rfl,?_⟩)))))))))))))))
     refine Run.condT rfl rfl (Run.seq (Run.ops hm (Ops.p rfl (Ops.nil (Run.ret ?_)))))
     obtain rfl := someO h
     have h := hk_331
     replace h := inlO h
     obtain rfl := someO h
     exact Ends.mkG (.inl rfl) rfl (gh_pk [0] [] hB rfl rfl rfl rfl) rfl rfl
    ·refine OpsD.gp rfl g_357 rfl (OpsD.gp rfl g_357 rfl (OpsD.gp rfl g_357 rfl (OpsD.askO (x := .t 25) rfl h (fun g_358 h => ?_) (fun g_358 h => ?_))))
     ·refine OpsD.gp rfl g_358 rfl (OpsD.gp rfl g_358 rfl (OpsD.gp rfl g_358 rfl ?_))
      obtain ⟨x_359,hx_359,h⟩ := bindO h
      refine OpsD.gs (s := 17624) rfl g_358 (Ev.iaF rfl rfl hx_359) rfl rfl (OpsD.gp rfl g_358 rfl (OpsD.gp rfl g_358 rfl (OpsD.gp rfl g_358 rfl ?_)))
      obtain ⟨x_360,hx_360,h⟩ := bindO h
      refine OpsD.gs (s := 17688) rfl g_358 (Ev.iaF rfl rfl hx_360) rfl rfl (OpsD.gp rfl g_358 rfl (OpsD.gp rfl g_358 rfl (OpsD.gs (s := 17736) rfl g_357 (.pkT rfl g_358 rfl) rfl rfl (OpsD.st (s := 17752) (.pkF rfl g_357 rfl) rfl rfl (OpsD.nil ⟨by kernel_rfl,?_⟩)))))
      refine Run.condO rfl h (fun g_361 h => ?_) (fun g_361 h => ?_)
      ·refine Run.seq (Run.ops hm (Ops.p rfl (Ops.nil (Run.ret ?_))))
       obtain rfl := someO h
       have h := hk_331
       replace h := inlO h
       obtain rfl := someO h
       exact Ends.mkG (.inl rfl) rfl (gh_pk [0] [] hB rfl rfl rfl rfl) rfl rfl
      ·exact Run.skip (⟨_,_,(gh_pk [0,1,2,7] [] hB rfl rfl rfl rfl),(),h,rfl,rfl⟩)
     ·refine OpsD.gn rfl g_358 (OpsD.gn rfl g_358 (OpsD.gn rfl g_358 (OpsD.gn rfl g_358 (OpsD.gn rfl g_358 (OpsD.gn rfl g_358 (OpsD.gn rfl g_358 (OpsD.gn rfl g_358 (OpsD.gn rfl g_358 (OpsD.gn rfl g_358 (OpsD.gs (s := 17736) rfl g_357 (.pkF rfl g_358 rfl) rfl rfl (OpsD.st (s := 17752) (.pkF rfl g_357 rfl) rfl rfl (OpsD.nil ⟨by kernel_rfl,?_⟩))))))))))))
      exact Run.condF rfl rfl (Run.skip (⟨_,_,(gh_pk [0,1,2,7] [] hB rfl rfl rfl rfl),(),h,rfl,rfl⟩))
   ·exact Run.ops hm (.p3 rfl rfl rfl (Ops.nil (⟨m_331,Nat.lt_succ_self m_331,_,_,(gh_pk [0,1,2,7] [] hB rfl rfl rfl rfl),_,h,rfl,rfl⟩)))
  ·refine Run.exit ?_
   obtain rfl := someO h
   have h := hk_331
   replace h := inrO h
   exact ⟨_,_,(gh_pk [] [] hB rfl rfl rfl rfl),(),h,rfl,rfl⟩
 ·refine Run.seq (Run.ops hm (Ops.p rfl (Ops.nil (Run.ret ?_))))
  obtain rfl := someO h
  exact Ends.mkG (.inl rfl) rfl (gh_pk [0] [] hB rfl rfl rfl rfl) rfl rfl
def spec_ConfOk (N : Nat) (x_1 : (List Int)) : Option (Bool) :=
 (spec_l01In N (x_1.length : Int) 1 4).bind fun y_109 =>
 (if y_109 = true then
 (spec_l07Rise N x_1 1 4).bind fun y_111 =>
 some y_111
 else
 some false)
theorem sem_spec_ConfOk (N : Nat) (x_1 : (List Int)) (r : Bool) (h : spec_ConfOk N x_1 = some r) : Says Try.prog 151 [RO 3 (x_1.map encI)] 0 [] (VB r) [] := by
 unfold spec_ConfOk at h
 refine Says.of_run s151 Try.call151 rfl fun B hB => ?_
 have hm : B.m ≤ 1000 := by omega
 refine Run.seq (Run.ops hm (Ops.p rfl (Ops.nil (Run.seq (Run.ops hm (Ops.p rfl (Ops.st (s := 5112) (Ev.lnF rfl) rfl rfl ?_)))))))
 obtain ⟨y_109,hy_109,h⟩ := bindO h
 refine Ops.st (s := 5128) (Ev.call [] [] 0 (sem_spec_l01In _ _ _ _ _ hy_109) rfl rfl (.d2 (.d1 .nil)) rfl (.inl rfl) rfl rfl) rfl rfl (Ops.p rfl (Ops.askO (x := .t 6) rfl h (fun g_110 h => ?_) (fun g_110 h => ?_)))
 ·refine Ops.gp rfl g_110 rfl ?_
  obtain ⟨y_111,hy_111,h⟩ := bindO h
  refine Ops.gs (s := 5176) rfl g_110 (Ev.call [] [] 0 (sem_spec_l07Rise _ _ _ _ _ hy_111) rfl rfl (.d2 (.d1 .nil)) rfl (.inl rfl) rfl rfl) rfl rfl (Ops.st (s := 5192) (.pkT rfl g_110 rfl) rfl rfl (Ops.p rfl (Ops.nil (Run.ret ?_))))
  obtain rfl := someO h
  exact Ends.mkG (.inl rfl) rfl (gh_pk [0] [] hB rfl rfl rfl rfl) rfl rfl
 ·refine Ops.gn rfl g_110 (Ops.gn rfl g_110 (Ops.st (s := 5192) (.pkF rfl g_110 rfl) rfl rfl (Ops.p rfl (Ops.nil (Run.ret ?_)))))
  obtain rfl := someO h
  exact Ends.mkG (.inl rfl) rfl (gh_pk [0] [] hB rfl rfl rfl rfl) rfl rfl
def spec_ReadConf_l1 (N : Nat) (x_1 : ByteArray) : Nat → Int → (List Int) → Option ((List Int))
 | 0,_,_ => none
 | m + 1,x_212,x_213 =>
 (if (decide (x_212 < (x_1.size : Int))) = true then
 (if (decide (x_212 ≤ 4)) = true then
 (sat? x_1 x_212).bind fun x_242 =>
 (cat? x_213 ([w64 (x_242)] : List Int)).bind fun x_243 =>
 spec_ReadConf_l1 N x_1 m (w64 (x_212 + 1)) x_243
 else
 some x_213)
 else
 some x_213)
def spec_ReadConf (N : Nat) (x_1 : ByteArray) : Option ((List Int) × Bool) :=
 joinP (fun (v_210 : (List Int)) =>
 (if (((v_210.length : Nat) : Int) != (x_1.size : Int)) = true then
 some (([] : List Int),false)
 else
 (spec_ConfOk N v_210).bind fun y_252 =>
 (if (!y_252) = true then
 some (([] : List Int),false)
 else
 some (v_210,true)))) fun j_210 =>
 (spec_ReadConf_l1 N x_1 N 0 ([] : List Int)).bind (fun v_228 => j_210 v_228)
theorem sem_spec_ReadConf (N : Nat) (x_1 : ByteArray) (r : (List Int) × Bool) (h : spec_ReadConf N x_1 = some r) : Says Try.prog 80 [VS x_1] 0 [] (.tup [.sl 0 3 0 r.1.length,VB r.2]) [(0,.vec 3 (r.1.map encI))] := by
 unfold spec_ReadConf at h
 refine Says.of_run s80 Try.call80 rfl fun B hB => ?_
 have hm : B.m ≤ 1000 := by omega
 refine Run.seq (Run.ops hm (.p2 rfl rfl (Ops.nil (Run.seq (Run.ops hm (Ops.st (s := 5096) (Ev.bsW (ys := ([] : List Int)) (f := encI) rfl .nil rfl rfl rfl rfl rfl) rfl rfl (Ops.p rfl (Ops.nil (Run.seqO h (fun v_210 => [(0,VS x_1),(4,.sl 0 3 0 v_210.length)]) (fun (v_210 : (List Int)) => [(0,.vec 3 (v_210.map encI))]) (fun h => ?_) (fun v_210 h => ?_))))))))))
 ·refine Run.seq (Run.ops hm (Ops.p rfl (Ops.nil (Run.block ?_))))
  obtain ⟨res_228,h,hk_228⟩ := bindO h
  refine Run.loop (n := N) (fun m_228 fr σ => ∃ (x_212 : Int),∃ (x_213 : (List Int)),spec_ReadConf_l1 N x_1 m_228 x_212 x_213 = some res_228 ∧ fr = [(0,VS x_1),(4,.sl 0 3 0 x_213.length),(5,VI x_212)] ∧ σ = [(0,.vec 3 (x_213.map encI))]) (gh_pk [0,4,5] [5096] hB rfl rfl rfl rfl) ⟨_,_,h,rfl,rfl⟩ ?_
  rintro m_228 fr σ ⟨x_212,x_213,h,rfl,rfl⟩
  obtain _ | m_228 := m_228
  ·rw [spec_ReadConf_l1] at h; cases h
  rw [spec_ReadConf_l1] at h
  refine Run.seq (Run.seq (Run.ops hm (.p3 rfl rfl rfl (.p2 rfl rfl (Ops.askO (x := .t 11) rfl h (fun g_234 h => ?_) (fun g_234 h => ?_))))))
  ·refine Ops.gp rfl g_234 rfl (Ops.gp rfl g_234 rfl (Ops.st (s := 13400) (.pkT rfl g_234 rfl) rfl rfl (Ops.nil (Run.condO rfl h (fun g_235 h => ?_) (fun g_235 h => ?_)))))
   ·refine Run.skip (Run.seq (Run.block (Run.ops hm (.p3 rfl rfl rfl ?_))))
    obtain ⟨x_242,hx_242,h⟩ := bindO h
    refine Ops.st (s := 21528) (Ev.ixS rfl rfl hx_242) rfl rfl (Ops.p rfl (Ops.st (s := 21560) (Ev.bsW (ys := ([w64 (x_242)] : List Int)) (f := encI) rfl (.d1 .nil) rfl rfl rfl rfl rfl) rfl rfl ?_))
    obtain ⟨x_243,hx_243,h⟩ := bindO h
    exact Ops.st (s := 21576) (Ev.apW (f := encI) (ontoW rfl rfl rfl) (addsW rfl rfl rfl (fun _ => rfl)) rfl bt3 rfl hx_243) rfl rfl (Ops.p rfl (Ops.nil (Run.ops hm (.p3 rfl rfl rfl (Ops.nil (⟨m_228,Nat.lt_succ_self m_228,_,_,(gh_pk [0,4,5] [21576] hB rfl rfl rfl rfl),_,_,h,rfl,rfl⟩))))))
   ·refine Run.exit ?_
    obtain rfl := someO h
    have h := hk_228
    exact ⟨_,_,(gh_pk [0,4] [0] hB rfl rfl rfl rfl),_,h,rfl,rfl⟩
  ·refine Ops.gn rfl g_234 (Ops.gn rfl g_234 (Ops.st (s := 13400) (.pkF rfl g_234 rfl) rfl rfl (Ops.nil (Run.condF rfl rfl (Run.exit ?_)))))
   obtain rfl := someO h
   have h := hk_228
   exact ⟨_,_,(gh_pk [0,4] [0] hB rfl rfl rfl rfl),_,h,rfl,rfl⟩
 ·refine Run.seq (Run.seq (Run.ops hm (.p3 rfl rfl rfl (.p3 rfl rfl rfl (Ops.askO (x := .t 29) rfl h (fun g_251 h => ?_) (fun g_251 h => ?_))))))
  ·refine Ops.gn rfl g_251 (Ops.gn rfl g_251 (Ops.gn rfl g_251 (Ops.st (s := 25720) (.pkT rfl g_251 rfl) rfl rfl (Ops.nil (Run.condT rfl rfl (Run.seq (Run.ops hm (Ops.st (s := 29672) (Ev.bsW (ys := ([] : List Int)) (f := encI) rfl .nil rfl rfl rfl rfl rfl) rfl rfl (.p2 rfl rfl (Ops.nil (Run.ret ?_)))))))))))
   obtain rfl := someO h
   exact Ends.mkG (.inl rfl) rfl (gh_pk [0,1] [29672] hB rfl rfl rfl rfl) rfl rfl
  ·refine Ops.gp rfl g_251 rfl ?_
   obtain ⟨y_252,hy_252,h⟩ := bindO h
   refine Ops.gs (s := 25688) rfl g_251 (Ev.call [] [0] 0 (sem_spec_ConfOk _ _ _ hy_252) rfl rfl (.cons (.borrow rfl (by decide) (lendW (fun _ => rfl) _ rfl)) .nil) rfl (.inr ⟨rfl,ownL_root trivial⟩) rfl rfl) rfl rfl ?_
   refine Ops.gp rfl g_251 rfl (Ops.st (s := 25720) (.pkF rfl g_251 rfl) rfl rfl (Ops.nil (Run.condO rfl h (fun g_253 h => ?_) (fun g_253 h => ?_))))
   ·refine Run.seq (Run.ops hm (Ops.st (s := 29672) (Ev.bsW (ys := ([] : List Int)) (f := encI) rfl .nil rfl rfl rfl rfl rfl) rfl rfl (.p2 rfl rfl (Ops.nil (Run.ret ?_)))))
    obtain rfl := someO h
    exact Ends.mkG (.inl rfl) rfl (gh_pk [0,1] [29672] hB rfl rfl rfl rfl) rfl rfl
   ·refine Run.skip (Run.seq (Run.ops hm (.p3 rfl rfl rfl (Ops.nil (Run.ret ?_)))))
    obtain rfl := someO h
    exact Ends.mkG (.inl rfl) rfl (gh_pk [0,1] [0] hB rfl rfl rfl rfl) rfl rfl
def spec_EntryOk (N : Nat) (x_1 : Entry) : Option (Bool) :=
 (spec_l01In N x_1.Term 0 100000).bind fun y_117 =>
 (if (!y_117) = true then
 some false
 else
 (if (x_1.Kind == 1) = true then
 some (decide (x_1.Data = (⟨#[]⟩ : ByteArray)))
 else
 (if (x_1.Kind == 2) = true then
 (spec_ReadConf N x_1.Data).bind fun y_124 =>
 some y_124.2
 else
 (if (x_1.Kind == 3) = true then
 some (decide ((x_1.Data.size : Int) ≤ 120))
 else
 some false))))
theorem sem_spec_EntryOk (N : Nat) (x_1 : Entry) (r : Bool) (h : spec_EntryOk N x_1 = some r) : Says Try.prog 62 [.agg [VI x_1.Term,VI x_1.Kind,VS x_1.Data]] 0 [] (VB r) [] := by
 unfold spec_EntryOk at h
 refine Says.of_run s62 Try.call62 rfl fun B hB => ?_
 have hm : B.m ≤ 1000 := by omega
 refine Run.seq (Run.ops hm (Ops.st (s := 1000) (.bx rfl rfl) rfl rfl (Ops.p rfl (Ops.nil (Run.seq (Run.seq (Run.ops hm (.p2 rfl rfl ?_))))))))
 obtain ⟨y_117,hy_117,h⟩ := bindO h
 refine Ops.st (s := 5128) (Ev.call [] [] 0 (sem_spec_l01In _ _ _ _ _ hy_117) rfl rfl (.d2 (.d1 .nil)) rfl (.inl rfl) rfl rfl) rfl rfl (Ops.p rfl (Ops.nil (Run.condO rfl h (fun g_118 h => ?_) (fun g_118 h => ?_))))
 ·refine Run.seq (Run.ops hm (Ops.p rfl (Ops.nil (Run.ret ?_))))
  obtain rfl := someO h
  exact Ends.mkG (.inl rfl) rfl (gh_pk [0] [] hB rfl rfl rfl rfl) rfl rfl
 ·refine Run.skip (Run.seq (Run.seq (Run.ops hm (.p2 rfl rfl (Ops.nil (Run.block (Run.seq (Run.ops hm (.p2 rfl rfl (Ops.nil (Run.condO rfl h (fun g_119 h => ?_) (fun g_119 h => ?_))))))))))))
  ·refine Run.seq (Run.ops hm (.p3 rfl rfl rfl (Ops.p rfl (Ops.nil (Run.ret ?_)))))
   obtain rfl := someO h
   exact Ends.mkG (.inl rfl) rfl (gh_pk [0] [] hB rfl rfl rfl rfl) rfl rfl
  ·refine Run.seq (Run.ops hm (.p2 rfl rfl (Ops.nil (Run.condO rfl h (fun g_120 h => ?_) (fun g_120 h => ?_)))))
   ·refine Run.seq (Run.ops hm (.p2 rfl rfl ?_))
    obtain ⟨y_124,hy_124,h⟩ := bindO h
    refine Ops.st (s := 29704) (Ev.call [] [] 1 (sem_spec_ReadConf _ _ _ hy_124) rfl rfl (.d1 .nil) rfl (.inl rfl) rfl rfl) rfl rfl (.p3 rfl rfl rfl (.p2 rfl rfl (Ops.nil (Run.seq (Run.ops hm (.p2 rfl rfl (Ops.nil (Run.ret ?_))))))))
    obtain rfl := someO h
    exact Ends.mkG (.inl rfl) rfl (gh_pk [0] [] hB rfl rfl rfl rfl) rfl rfl
   ·refine Run.seq (Run.ops hm (.p2 rfl rfl (Ops.nil (Run.condO rfl h (fun g_125 h => ?_) (fun g_125 h => ?_)))))
    ·refine Run.seq (Run.ops hm (.p3 rfl rfl rfl (.p2 rfl rfl (Ops.nil (Run.ret ?_)))))
     obtain rfl := someO h
     exact Ends.mkG (.inl rfl) rfl (gh_pk [0] [] hB rfl rfl rfl rfl) rfl rfl
    ·refine Run.skip (Run.seq (Run.ops hm (Ops.p rfl (Ops.nil (Run.ret ?_)))))
     obtain rfl := someO h
     exact Ends.mkG (.inl rfl) rfl (gh_pk [0] [] hB rfl rfl rfl rfl) rfl rfl
def spec_LogOk_l1 (N : Nat) (x_1 : Log) : Nat → Int → Int → Option ((Bool) ⊕ (Unit))
 | 0,_,_ => none
 | m + 1,x_422,x_423 =>
 (if (decide (x_423 < (x_1.Entries.length : Int))) = true then
 (at? x_1.Entries x_423).bind fun x_507 =>
 (spec_EntryOk N x_507).bind fun y_508 =>
 (if (!y_508) = true then
 some (Sum.inl false)
 else
 (at? x_1.Entries x_423).bind fun x_510 =>
 (if (decide (x_510.Term < x_422)) = true then
 some (Sum.inl false)
 else
 (at? x_1.Entries x_423).bind fun x_513 =>
 spec_LogOk_l1 N x_1 m x_513.Term (w64 (x_423 + 1))))
 else
 some (Sum.inr ()))
def spec_LogOk_l1_r (N : Nat) (x_1 : Log) : (List Entry) → Int → Int → Option ((Bool) ⊕ (Unit))
 | [],x_422,x_423 =>
 some (Sum.inr ())
 | hd :: tl,x_422,x_423 =>
 (some hd).bind fun x_507 =>
 (spec_EntryOk N x_507).bind fun y_508 =>
 (if (!y_508) = true then
 some (Sum.inl false)
 else
 (some hd).bind fun x_510 =>
 (if (decide (x_510.Term < x_422)) = true then
 some (Sum.inl false)
 else
 (some hd).bind fun x_513 =>
 spec_LogOk_l1_r N x_1 tl x_513.Term (w64 (x_423 + 1))))
theorem spec_LogOk_l1_rng (N : Nat) (x_1 : Log) (hx : x_1.Entries.length ≤ 1099511627776) : ∀ (d k m : Nat) (x_422 : Int),x_1.Entries.length = k + d → d < m → spec_LogOk_l1 N x_1 m x_422 (k : Int) = spec_LogOk_l1_r N x_1 (x_1.Entries.drop k) x_422 (k : Int) := by
 intro d
 induction d with
 | zero =>
  intro k m x_422 hd hm
  obtain ⟨m,rfl⟩ : ∃ q,m = q + 1 := ⟨m - 1,by omega⟩
  rw [spec_LogOk_l1,if_neg (by simp; omega),List.drop_eq_nil_of_le (by omega),spec_LogOk_l1_r]
 | succ d ih =>
  intro k m x_422 hd hm
  obtain ⟨m,rfl⟩ : ∃ q,m = q + 1 := ⟨m - 1,by omega⟩
  have hk : k < x_1.Entries.length := by omega
  rw [spec_LogOk_l1,if_pos (by simp; omega),List.drop_eq_getElem_cons hk,spec_LogOk_l1_r]
  have h1 := at_lt hk
  have h2 := w64_succ (k := k) (by omega)
  have h3 := ih (k + 1) m
  simp only [h1,h2,h3 _ (by omega) (by omega)]
theorem spec_LogOk_l1_eq {N : Nat} (x_1 : Log) (hx : x_1.Entries.length ≤ 1099511627776) (hN : x_1.Entries.length < N) (x_422 : Int) : spec_LogOk_l1 N x_1 N x_422 0 = spec_LogOk_l1_r N x_1 x_1.Entries x_422 0 := spec_LogOk_l1_rng N x_1 hx x_1.Entries.length 0 N x_422 (by omega) hN
def spec_LogOk (N : Nat) (x_1 : Log) : Option (Bool) :=
 (spec_l01In N x_1.Start 0 100000).bind fun y_323 =>
 (if (!y_323) = true then
 some false
 else
 (spec_l01In N x_1.StartTerm 0 100000).bind fun y_325 =>
 (if (!y_325) = true then
 some false
 else
 (if (decide ((x_1.Entries.length : Int) > 120)) = true then
 some false
 else
 (if (decide ((w64 (x_1.Start + (x_1.Entries.length : Int))) > 100000)) = true then
 some false
 else
 joinP (fun (v_421 : Unit) =>
 some true) fun j_421 =>
 (spec_LogOk_l1 N x_1 N x_1.StartTerm 0).bind (Sum.elim (fun v_469 => some v_469) (fun (v_470 : Unit) => j_421 ()))))))
theorem sem_spec_LogOk (N : Nat) (x_1 : Log) (r : Bool) (h : spec_LogOk N x_1 = some r) : Says Try.prog 18 [.agg [VI x_1.Start,VI x_1.StartTerm,RO 51 (x_1.Entries.map encEntry)]] 0 [] (VB r) [] := by
 unfold spec_LogOk at h
 refine Says.of_run s18 Try.call18 rfl fun B hB => ?_
 have hm : B.m ≤ 1000 := by omega
 refine Run.seq (Run.ops hm (Ops.st (s := 1000) (.bx rfl rfl) rfl rfl (Ops.p rfl (Ops.nil (Run.seq (Run.seq (Run.ops hm (.p2 rfl rfl ?_))))))))
 obtain ⟨y_323,hy_323,h⟩ := bindO h
 refine Ops.st (s := 5128) (Ev.call [] [] 0 (sem_spec_l01In _ _ _ _ _ hy_323) rfl rfl (.d2 (.d1 .nil)) rfl (.inl rfl) rfl rfl) rfl rfl (.p2 rfl rfl (Ops.askO (x := .t 9) rfl h (fun g_324 h => ?_) (fun g_324 h => ?_)))
 ·refine Ops.gn rfl g_324 (Ops.gn rfl g_324 (Ops.gn rfl g_324 (Ops.gn rfl g_324 (Ops.st (s := 5240) (.pkT rfl g_324 rfl) rfl rfl (Ops.p rfl (Ops.gn rfl rfl (Ops.gn rfl rfl (Ops.gn rfl rfl (Ops.gn rfl rfl (Ops.st (s := 5336) (.pkT rfl rfl rfl) rfl rfl (Ops.p rfl (Ops.gn rfl rfl (Ops.gn rfl rfl (Ops.gn rfl rfl (Ops.gn rfl rfl (Ops.gn rfl rfl (Ops.gn rfl rfl (Ops.gn rfl rfl (Ops.st (s := 5480) (.pkT rfl rfl rfl) rfl rfl (Ops.nil (Run.condT rfl rfl (Run.seq (Run.ops hm (Ops.p rfl (Ops.nil (Run.ret ?_))))))))))))))))))))))))))
  obtain rfl := someO h
  exact Ends.mkG (.inl rfl) rfl (gh_pk [0] [] hB rfl rfl rfl rfl) rfl rfl
 ·refine Ops.gp rfl g_324 rfl (Ops.gp rfl g_324 rfl ?_)
  obtain ⟨y_325,hy_325,h⟩ := bindO h
  refine Ops.gs (s := 5208) rfl g_324 (Ev.call [] [] 0 (sem_spec_l01In _ _ _ _ _ hy_325) rfl rfl (.d2 (.d1 .nil)) rfl (.inl rfl) rfl rfl) rfl rfl (Ops.gp rfl g_324 rfl (Ops.st (s := 5240) (.pkF rfl g_324 rfl) rfl rfl (Ops.p rfl (Ops.askO (x := .t 15) rfl h (fun g_326 h => ?_) (fun g_326 h => ?_)))))
  ·refine Ops.gn rfl g_326 (Ops.gn rfl g_326 (Ops.gn rfl g_326 (Ops.gn rfl g_326 (Ops.st (s := 5336) (.pkT rfl g_326 rfl) rfl rfl (Ops.p rfl (Ops.gn rfl rfl (Ops.gn rfl rfl (Ops.gn rfl rfl (Ops.gn rfl rfl (Ops.gn rfl rfl (Ops.gn rfl rfl (Ops.gn rfl rfl (Ops.st (s := 5480) (.pkT rfl rfl rfl) rfl rfl (Ops.nil (Run.condT rfl rfl (Run.seq (Run.ops hm (Ops.p rfl (Ops.nil (Run.ret ?_))))))))))))))))))))
   obtain rfl := someO h
   exact Ends.mkG (.inl rfl) rfl (gh_pk [0] [] hB rfl rfl rfl rfl) rfl rfl
  ·refine Ops.gp rfl g_326 rfl (Ops.gp rfl g_326 rfl (Ops.gs (s := 5304) rfl g_326 (Ev.lnF rfl) rfl rfl (Ops.gp rfl g_326 rfl (Ops.st (s := 5336) (.pkF rfl g_326 rfl) rfl rfl (Ops.p rfl (Ops.askO (x := .t 21) rfl h (fun g_327 h => ?_) (fun g_327 h => ?_)))))))
   ·refine Ops.gn rfl g_327 (Ops.gn rfl g_327 (Ops.gn rfl g_327 (Ops.gn rfl g_327 (Ops.gn rfl g_327 (Ops.gn rfl g_327 (Ops.gn rfl g_327 (Ops.st (s := 5480) (.pkT rfl g_327 rfl) rfl rfl (Ops.nil (Run.condT rfl rfl (Run.seq (Run.ops hm (Ops.p rfl (Ops.nil (Run.ret ?_))))))))))))))
    obtain rfl := someO h
    exact Ends.mkG (.inl rfl) rfl (gh_pk [0] [] hB rfl rfl rfl rfl) rfl rfl
   ·refine Ops.gp rfl g_327 rfl (Ops.gp rfl g_327 rfl (Ops.gp rfl g_327 rfl (Ops.gp rfl g_327 rfl (Ops.gs (s := 5432) rfl g_327 (Ev.lnF rfl) rfl rfl (Ops.gp rfl g_327 rfl (Ops.gp rfl g_327 rfl (Ops.st (s := 5480) (.pkF rfl g_327 rfl) rfl rfl (Ops.nil (Run.condO rfl h (fun g_328 h => ?_) (fun g_328 h => ?_))))))))))
    ·refine Run.seq (Run.ops hm (Ops.p rfl (Ops.nil (Run.ret ?_))))
     obtain rfl := someO h
     exact Ends.mkG (.inl rfl) rfl (gh_pk [0] [] hB rfl rfl rfl rfl) rfl rfl
    ·refine Run.skip (Run.seq (Run.ops hm (.p3 rfl rfl rfl (Ops.nil (Run.seqO h (fun v_421 => []) (fun (v_421 : Unit) => []) (fun h => ?_) (fun v_421 h => ?_))))))
     ·refine Run.seq (Run.ops hm (Ops.p rfl (Ops.nil (Run.block ?_))))
      obtain ⟨res_470,h,hk_470⟩ := bindO h
      refine Run.loop (n := N) (fun m_470 fr σ => ∃ (x_422 : Int),∃ (x_423 : Int),spec_LogOk_l1 N x_1 m_470 x_422 x_423 = some res_470 ∧ fr = [(1,.ptr 0 0),(3,VI x_422),(4,VI x_423)] ∧ σ = [(0,.box [VI x_1.Start,VI x_1.StartTerm,RO 51 (x_1.Entries.map encEntry)])]) (gh_pk [1,3,4] [1000] hB rfl rfl rfl rfl) ⟨_,_,h,rfl,rfl⟩ ?_
      rintro m_470 fr σ ⟨x_422,x_423,h,rfl,rfl⟩
      obtain _ | m_470 := m_470
      ·rw [spec_LogOk_l1] at h; cases h
      rw [spec_LogOk_l1] at h
      refine Run.seq (Run.seq (Run.ops hm (.p3 rfl rfl rfl (Ops.st (s := 21528) (Ev.lnF rfl) rfl rfl (Ops.p rfl (Ops.nil (Run.condO rfl h (fun g_473 h => ?_) (fun g_473 h => ?_))))))))
      ·refine Run.skip (Run.seq (Run.block (Run.seq (Run.seq (Run.ops hm (.p3 rfl rfl rfl ?_))))))
       obtain ⟨x_507,hx_507,h⟩ := bindO h
       refine Ops.st (s := 29720) (Ev.iaF rfl rfl hx_507) rfl rfl (Ops.p rfl ?_)
       obtain ⟨y_508,hy_508,h⟩ := bindO h
       refine Ops.st (s := 29752) (Ev.call [] [] 0 (sem_spec_EntryOk _ _ _ hy_508) rfl rfl (.cons (.agg (.d2 (.d1 .nil))) .nil) rfl (.inl rfl) rfl rfl) rfl rfl (.p2 rfl rfl (Ops.askO (x := .t 46) rfl h (fun g_509 h => ?_) (fun g_509 h => ?_)))
       ·refine Ops.gn rfl g_509 (Ops.gn rfl g_509 (Ops.gn rfl g_509 (Ops.gn rfl g_509 (Ops.gn rfl g_509 (Ops.gn rfl g_509 (Ops.gn rfl g_509 (Ops.gn rfl g_509 (Ops.st (s := 29928) (.pkT rfl g_509 rfl) rfl rfl (Ops.nil (Run.condT rfl rfl (Run.seq (Run.ops hm (Ops.p rfl (Ops.nil (Run.ret ?_)))))))))))))))
        obtain rfl := someO h
        have h := hk_470
        replace h := inlO h
        obtain rfl := someO h
        exact Ends.mkG (.inl rfl) rfl (gh_pk [0] [] hB rfl rfl rfl rfl) rfl rfl
       ·refine Ops.gp rfl g_509 rfl (Ops.gp rfl g_509 rfl (Ops.gp rfl g_509 rfl ?_))
        obtain ⟨x_510,hx_510,h⟩ := bindO h
        refine Ops.gs (s := 29848) rfl g_509 (Ev.iaF rfl rfl hx_510) rfl rfl (Ops.gp rfl g_509 rfl (Ops.gp rfl g_509 rfl (Ops.gp rfl g_509 rfl (Ops.gp rfl g_509 rfl (Ops.st (s := 29928) (.pkF rfl g_509 rfl) rfl rfl (Ops.nil (Run.condO rfl h (fun g_511 h => ?_) (fun g_511 h => ?_))))))))
        ·refine Run.seq (Run.ops hm (Ops.p rfl (Ops.nil (Run.ret ?_))))
         obtain rfl := someO h
         have h := hk_470
         replace h := inlO h
         obtain rfl := someO h
         exact Ends.mkG (.inl rfl) rfl (gh_pk [0] [] hB rfl rfl rfl rfl) rfl rfl
        ·refine Run.skip (Run.ops hm (.p3 rfl rfl rfl ?_))
         obtain ⟨x_513,hx_513,h⟩ := bindO h
         exact Ops.st (s := 37912) (Ev.iaF rfl rfl hx_513) rfl rfl (.p3 rfl rfl rfl (Ops.nil (Run.ops hm (.p3 rfl rfl rfl (Ops.nil (⟨m_470,Nat.lt_succ_self m_470,_,_,(gh_pk [1,3,4] [0] hB rfl rfl rfl rfl),_,_,h,rfl,rfl⟩))))))
      ·refine Run.exit ?_
       obtain rfl := someO h
       have h := hk_470
       replace h := inrO h
       exact ⟨_,_,(gh_pk [] [] hB rfl rfl rfl rfl),(),h,rfl,rfl⟩
     ·refine Run.seq (Run.ops hm (Ops.p rfl (Ops.nil (Run.ret ?_))))
      obtain rfl := someO h
      exact Ends.mkG (.inl rfl) rfl (gh_pk [0] [] hB rfl rfl rfl rfl) rfl rfl
def spec_LogLast (N : Nat) (x_1 : Log) : Option (Int × Int) :=
 (if ((x_1.Entries.length : Int) == 0) = true then
 some (x_1.Start,x_1.StartTerm)
 else
 (at? x_1.Entries (w64 ((x_1.Entries.length : Int) - 1))).bind fun x_107 =>
 some (w64 (x_1.Start + (x_1.Entries.length : Int)),x_107.Term))
theorem sem_spec_LogLast (N : Nat) (x_1 : Log) (r : Int × Int) (h : spec_LogLast N x_1 = some r) : Says Try.prog 22 [.agg [VI x_1.Start,VI x_1.StartTerm,RO 51 (x_1.Entries.map encEntry)]] 0 [] (.tup [VI r.1,VI r.2]) [] := by
 unfold spec_LogLast at h
 refine Says.of_run s22 Try.call22 rfl fun B hB => ?_
 have hm : B.m ≤ 1000 := by omega
 refine Run.seq (Run.ops hm (Ops.st (s := 1000) (.bx rfl rfl) rfl rfl (.p2 rfl rfl (Ops.nil (Run.seq (Run.ops hm (.p2 rfl rfl (Ops.st (s := 5128) (Ev.lnF rfl) rfl rfl (Ops.p rfl (Ops.nil (Run.seq (Run.seq (Run.ops hm (.p2 rfl rfl (Ops.nil (Run.condO rfl h (fun g_105 h => ?_) (fun g_105 h => ?_)))))))))))))))))
 ·refine Run.seq (Run.draw hm hmix (OpsD.p rfl (OpsD.p rfl (OpsD.p rfl (OpsD.p rfl (OpsD.p rfl (OpsD.p rfl (OpsD.nil ⟨by kernel_rfl,?_⟩))))))))
  refine Run.ret ?_
  obtain rfl := someO h
  exact Ends.mkG (.inl rfl) rfl (gh_pk [0,1] [] hB rfl rfl rfl rfl) rfl rfl
 ·refine Run.skip (Run.seq (Run.draw hm hmix (OpsD.p rfl (OpsD.p rfl (OpsD.p rfl (OpsD.p rfl (OpsD.p rfl (OpsD.p rfl (OpsD.p rfl (OpsD.p rfl ?_))))))))))
  obtain ⟨x_107,hx_107,h⟩ := bindO h
  refine OpsD.st (s := 17512) (Ev.iaF rfl rfl hx_107) rfl rfl (OpsD.p rfl (OpsD.p rfl (OpsD.p rfl (OpsD.p rfl (OpsD.nil ⟨by kernel_rfl,?_⟩)))))
  refine Run.ret ?_
  obtain rfl := someO h
  exact Ends.mkG (.inl rfl) rfl (gh_pk [0,1] [] hB rfl rfl rfl rfl) rfl rfl
def spec_ConfAt_l1 (N : Nat) (x_1 : Node) (x_2 : Int) : Nat → Int → (List Int) → Option ((List Int))
 | 0,_,_ => none
 | m + 1,x_354,x_369 =>
 (if (decide (x_354 < (x_1.Log.Entries.length : Int))) = true then
 (if (decide ((w64 ((w64 (x_1.Log.Start + 1)) + x_354)) ≤ x_2)) = true then
 joinP (fun (v_421 : (List Int)) =>
 spec_ConfAt_l1 N x_1 x_2 m (w64 (x_354 + 1)) v_421) fun j_421 =>
 (at? x_1.Log.Entries x_354).bind fun x_423 =>
 (if (x_423.Kind == 2) = true then
 (at? x_1.Log.Entries x_354).bind fun x_431 =>
 (spec_ReadConf N x_431.Data).bind fun y_432 =>
 (if y_432.2 = true then
 j_421 y_432.1
 else
 j_421 x_369)
 else
 j_421 x_369)
 else
 some x_369)
 else
 some x_369)
def spec_ConfAt_l1_r (N : Nat) (x_1 : Node) (x_2 : Int) : (List Entry) → Int → (List Int) → Option ((List Int))
 | [],x_354,x_369 =>
 some x_369
 | hd :: tl,x_354,x_369 =>
 (if (decide ((w64 ((w64 (x_1.Log.Start + 1)) + x_354)) ≤ x_2)) = true then
 joinP (fun (v_421 : (List Int)) =>
 spec_ConfAt_l1_r N x_1 x_2 tl (w64 (x_354 + 1)) v_421) fun j_421 =>
 (some hd).bind fun x_423 =>
 (if (x_423.Kind == 2) = true then
 (some hd).bind fun x_431 =>
 (spec_ReadConf N x_431.Data).bind fun y_432 =>
 (if y_432.2 = true then
 j_421 y_432.1
 else
 j_421 x_369)
 else
 j_421 x_369)
 else
 some x_369)
theorem spec_ConfAt_l1_rng (N : Nat) (x_1 : Node) (x_2 : Int) (hx : x_1.Log.Entries.length ≤ 1099511627776) : ∀ (d k m : Nat) (x_369 : (List Int)),x_1.Log.Entries.length = k + d → d < m → spec_ConfAt_l1 N x_1 x_2 m (k : Int) x_369 = spec_ConfAt_l1_r N x_1 x_2 (x_1.Log.Entries.drop k) (k : Int) x_369 := by
 intro d
 induction d with
 | zero =>
  intro k m x_369 hd hm
  obtain ⟨m,rfl⟩ : ∃ q,m = q + 1 := ⟨m - 1,by omega⟩
  rw [spec_ConfAt_l1,if_neg (by simp; omega),List.drop_eq_nil_of_le (by omega),spec_ConfAt_l1_r]
 | succ d ih =>
  intro k m x_369 hd hm
  obtain ⟨m,rfl⟩ : ∃ q,m = q + 1 := ⟨m - 1,by omega⟩
  have hk : k < x_1.Log.Entries.length := by omega
  rw [spec_ConfAt_l1,if_pos (by simp; omega),List.drop_eq_getElem_cons hk,spec_ConfAt_l1_r]
  have h1 := at_lt hk
  have h2 := w64_succ (k := k) (by omega)
  have h3 := ih (k + 1) m
  simp only [h1,h2,h3 _ (by omega) (by omega)]
theorem spec_ConfAt_l1_eq {N : Nat} (x_1 : Node) (x_2 : Int) (hx : x_1.Log.Entries.length ≤ 1099511627776) (hN : x_1.Log.Entries.length < N) (x_369 : (List Int)) : spec_ConfAt_l1 N x_1 x_2 N 0 x_369 = spec_ConfAt_l1_r N x_1 x_2 x_1.Log.Entries 0 x_369 := spec_ConfAt_l1_rng N x_1 x_2 hx x_1.Log.Entries.length 0 N x_369 (by omega) hN
def spec_ConfAt (N : Nat) (x_1 : Node) (x_2 : Int) : Option ((List Int)) :=
 (cat? ([] : List Int) x_1.Conf).bind fun x_270 =>
 joinP (fun (v_352 : (List Int)) =>
 some v_352) fun j_352 =>
 (spec_ConfAt_l1 N x_1 x_2 N 0 x_270).bind (fun v_401 => j_352 v_401)
theorem sem_spec_ConfAt (N : Nat) (x_1 : Node) (x_2 : Int) (r : (List Int)) (h : spec_ConfAt N x_1 x_2 = some r) : Says Try.prog 153 [.agg [VI x_1.Id,VI x_1.Term,VI x_1.Vote,VI x_1.Role,VI x_1.Lead,RO 3 (x_1.Conf.map encI),VI x_1.Log.Start,VI x_1.Log.StartTerm,RO 51 (x_1.Log.Entries.map encEntry),VI x_1.Commit,VI x_1.Clock,VI x_1.Limit,RO 3 (x_1.Votes.map encI),RO 135 (x_1.Peers.map encPeer)],VI x_2] 0 [] (.sl 0 3 0 r.length) [(0,.vec 3 (r.map encI))] := by
 unfold spec_ConfAt at h
 refine Says.of_run s153 Try.call153 rfl fun B hB => ?_
 have hm : B.m ≤ 1000 := by omega
 refine Run.seq (Run.ops hm (Ops.st (s := 1000) (.bx rfl rfl) rfl rfl (Ops.p rfl (Ops.nil (Run.seq (Run.ops hm (Ops.st (s := 5096) (Ev.bsW (ys := ([] : List Int)) (f := encI) rfl .nil rfl rfl rfl rfl rfl) rfl rfl (.p2 rfl rfl ?_))))))))
 obtain ⟨x_270,hx_270,h⟩ := bindO h
 refine Ops.st (s := 5144) (Ev.apW (f := encI) (ontoW rfl rfl rfl) (addsF rfl) rfl bt3 rfl hx_270) rfl rfl (Ops.p rfl (Ops.nil (Run.seqO h (fun v_352 => [(5,.sl 0 3 0 v_352.length)]) (fun (v_352 : (List Int)) => [(0,.vec 3 (v_352.map encI))]) (fun h => ?_) (fun v_352 h => ?_))))
 ·refine Run.seq (Run.ops hm (Ops.p rfl (Ops.nil (Run.block ?_))))
  obtain ⟨res_401,h,hk_401⟩ := bindO h
  refine Run.loop (n := N) (fun m_401 fr σ => ∃ (x_354 : Int),∃ (x_369 : (List Int)),spec_ConfAt_l1 N x_1 x_2 m_401 x_354 x_369 = some res_401 ∧ fr = [(1,VI x_2),(2,.ptr 0 0),(5,.sl 1 3 0 x_369.length),(6,VI x_354)] ∧ σ = [(0,.box [VI x_1.Id,VI x_1.Term,VI x_1.Vote,VI x_1.Role,VI x_1.Lead,RO 3 (x_1.Conf.map encI),VI x_1.Log.Start,VI x_1.Log.StartTerm,RO 51 (x_1.Log.Entries.map encEntry),VI x_1.Commit,VI x_1.Clock,VI x_1.Limit,RO 3 (x_1.Votes.map encI),RO 135 (x_1.Peers.map encPeer)]),(1,.vec 3 (x_369.map encI))]) (gh_pk [1,2,5,6] [1000,5144] hB rfl rfl rfl rfl) ⟨_,_,h,rfl,rfl⟩ ?_
  rintro m_401 fr σ ⟨x_354,x_369,h,rfl,rfl⟩
  obtain _ | m_401 := m_401
  ·rw [spec_ConfAt_l1] at h; cases h
  rw [spec_ConfAt_l1] at h
  refine Run.seq (Run.seq (Run.ops hm (.p3 rfl rfl rfl (Ops.p rfl (Ops.st (s := 13352) (Ev.lnF rfl) rfl rfl (.p2 rfl rfl (Ops.askO (x := .t 19) rfl h (fun g_407 h => ?_) (fun g_407 h => ?_))))))))
  ·refine Ops.gp rfl g_407 rfl (Ops.gp rfl g_407 rfl (Ops.gp rfl g_407 rfl (Ops.gp rfl g_407 rfl (Ops.gp rfl g_407 rfl (Ops.gp rfl g_407 rfl (Ops.gp rfl g_407 rfl (Ops.gp rfl g_407 rfl (Ops.st (s := 13528) (.pkT rfl g_407 rfl) rfl rfl (Ops.nil (Run.condO rfl h (fun g_408 h => ?_) (fun g_408 h => ?_)))))))))))
   ·refine Run.skip (Run.seqO h (fun v_421 => [(1,VI x_2),(2,.ptr 0 0),(5,.sl 1 3 0 v_421.length),(6,VI x_354)]) (fun (v_421 : (List Int)) => [(0,.box [VI x_1.Id,VI x_1.Term,VI x_1.Vote,VI x_1.Role,VI x_1.Lead,RO 3 (x_1.Conf.map encI),VI x_1.Log.Start,VI x_1.Log.StartTerm,RO 51 (x_1.Log.Entries.map encEntry),VI x_1.Commit,VI x_1.Clock,VI x_1.Limit,RO 3 (x_1.Votes.map encI),RO 135 (x_1.Peers.map encPeer)]),(1,.vec 3 (v_421.map encI))]) (fun h => ?_) (fun v_421 h => ?_))
    ·refine Run.block (Run.seq (Run.ops hm (.p3 rfl rfl rfl (Ops.p rfl ?_))))
     obtain ⟨x_423,hx_423,h⟩ := bindO h
     refine Ops.st (s := 21544) (Ev.iaF rfl rfl hx_423) rfl rfl (.p3 rfl rfl rfl (Ops.nil (Run.condO rfl h (fun g_424 h => ?_) (fun g_424 h => ?_))))
     ·refine Run.seq (Run.ops hm (.p3 rfl rfl rfl (Ops.p rfl ?_)))
      obtain ⟨x_431,hx_431,h⟩ := bindO h
      refine Ops.st (s := 25640) (Ev.iaF rfl rfl hx_431) rfl rfl (.p2 rfl rfl ?_)
      obtain ⟨y_432,hy_432,h⟩ := bindO h
      refine Ops.st (s := 25688) (Ev.call [] [] 1 (sem_spec_ReadConf _ _ _ hy_432) rfl rfl (.d1 .nil) rfl (.inl rfl) rfl rfl) rfl rfl (.p3 rfl rfl rfl (.p2 rfl rfl (Ops.nil (Run.seq (Run.ops hm (Ops.p rfl (Ops.nil (Run.condO rfl h (fun g_433 h => ?_) (fun g_433 h => ?_)))))))))
      ·exact Run.ops hm (.p2 rfl rfl (Ops.nil (⟨_,_,(gh_pk [1,2,5,6] [0,25688] hB rfl rfl rfl rfl),_,h,rfl,rfl⟩)))
      ·exact Run.skip (⟨_,_,(gh_pk [1,2,5,6] [0,1] hB rfl rfl rfl rfl),_,h,rfl,rfl⟩)
     ·exact Run.skip (⟨_,_,(gh_pk [1,2,5,6] [0,1] hB rfl rfl rfl rfl),_,h,rfl,rfl⟩)
    ·exact Run.ops hm (.p3 rfl rfl rfl (Ops.nil (⟨m_401,Nat.lt_succ_self m_401,_,_,(gh_pk [1,2,5,6] [0,1] hB rfl rfl rfl rfl),_,_,h,rfl,rfl⟩)))
   ·refine Run.exit ?_
    obtain rfl := someO h
    have h := hk_401
    exact ⟨_,_,(gh_pk [5] [1] hB rfl rfl rfl rfl),_,h,rfl,rfl⟩
  ·refine Ops.gn rfl g_407 (Ops.gn rfl g_407 (Ops.gn rfl g_407 (Ops.gn rfl g_407 (Ops.gn rfl g_407 (Ops.gn rfl g_407 (Ops.gn rfl g_407 (Ops.gn rfl g_407 (Ops.st (s := 13528) (.pkF rfl g_407 rfl) rfl rfl (Ops.nil (Run.condF rfl rfl (Run.exit ?_)))))))))))
   obtain rfl := someO h
   have h := hk_401
   exact ⟨_,_,(gh_pk [5] [1] hB rfl rfl rfl rfl),_,h,rfl,rfl⟩
 ·refine Run.seq (Run.ops hm (.p2 rfl rfl (Ops.nil (Run.ret ?_))))
  obtain rfl := someO h
  exact Ends.mkG (.inl rfl) rfl (gh_pk [0] [0] hB rfl rfl rfl rfl) rfl rfl
end Go.Proofs.Ytehknbpmpbghhaa.Pe.FnSettles
