/- Functions,as pure functions; and that Go does just that. -/
import Derived.Test.YtmnoonjkiflonaaGreatDoorPeTy
import Derived.Test.YtmnoonjkiflonaaGreatDoorPeNorm
import Derived.Test.YtmnoonjkiflonaaGreatDoorPeSpec
import Derived.Test.YtmnoonjkiflonaaGreatDoorShelf
import Derived.Test.YtmnoonjkiflonaaGreatDoorPeRow
import Derived.Test.YtmnoonjkiflonaaGreatDoorPeIns38
import Derived.Test.YtmnoonjkiflonaaGreatDoorPeIns153
import Derived.Test.YtmnoonjkiflonaaGreatDoorPeSFnExactReadScript
namespace Go.Proofs.YtmnoonjkiflonaaGreatDoor.Pe.FnExactReadScript
open Go Go.RowKit
set_option linter.unusedVariables false
set_option linter.unusedSimpArgs false
set_option maxHeartbeats 40000000
set_option maxRecDepth 100000
theorem hmix : Tryz.prog.follows .mixedOrders = true := by kernel_rfl
structure Command where
 Op : Int
 Session : Int
 Seq : Int
 Key : ByteArray
 Value : ByteArray
 Old : ByteArray
structure Event where
 Kind : Int
 Node : Int
 At : Int
 Limit : Int
 Command : Command
 Conf : (List Int)
 Cut : Bool
 Whole : Int
 Part : Int
abbrev encEvent (o : Bool) (x : Event) : List C := [.i .i64 x.Kind,.i .i64 x.Node,.i .i64 x.At,.i .i64 x.Limit,.i .i64 x.Command.Op,.i .i64 x.Command.Session,.i .i64 x.Command.Seq,.s x.Command.Key,.s x.Command.Value,.s x.Command.Old,.row o 3 (x.Conf.map encI),.b x.Cut,.i .i64 x.Whole,.i .i64 x.Part]
theorem ro_encEvent (x : Event) : roCs (encEvent true x) = encEvent false x := by simp only [encEvent,roCs,roC,roRows_mapf (fun _ => rfl)]
structure Manifest where
 Segs : (List Int)
 Next : Int
 Base : Int
 BaseTerm : Int
 Conf : (List Int)
structure File where
 Name : ByteArray
 Text : ByteArray
abbrev encFile (x : File) : List C := [.s x.Name,.s x.Text]
structure Disk where
 Files : (List File)
structure Entry where
 Term : Int
 Kind : Int
 Data : ByteArray
abbrev encEntry (x : Entry) : List C := [.i .i64 x.Term,.i .i64 x.Kind,.s x.Data]
structure Log where
 Start : Int
 StartTerm : Int
 Entries : (List Entry)
structure Peer where
 Id : Int
 Next : Int
 Match : Int
 Sent : Int
abbrev encPeer (x : Peer) : List C := [.i .i64 x.Id,.i .i64 x.Next,.i .i64 x.Match,.i .i64 x.Sent]
structure Node where
 Id : Int
 Term : Int
 Vote : Int
 Role : Int
 Lead : Int
 Conf : (List Int)
 Log : Log
 Commit : Int
 Clock : Int
 Limit : Int
 Votes : (List Int)
 Peers : (List Peer)
structure Spot where
 Key : ByteArray
 Seg : Int
 At : Int
 Size : Int
abbrev encSpot (x : Spot) : List C := [.s x.Key,.i .i64 x.Seg,.i .i64 x.At,.i .i64 x.Size]
structure Shelf where
 Man : Manifest
 Dir : (List Spot)
 Stamp : Int
structure Server where
 Node : Node
 Disk : Disk
 Shelf : Shelf
 Stage : ByteArray
 StageAt : Int
 StageTerm : Int
abbrev encServer (o : Bool) (x : Server) : List C := [.i .i64 x.Node.Id,.i .i64 x.Node.Term,.i .i64 x.Node.Vote,.i .i64 x.Node.Role,.i .i64 x.Node.Lead,.row o 3 (x.Node.Conf.map encI),.i .i64 x.Node.Log.Start,.i .i64 x.Node.Log.StartTerm,.row o 141 (x.Node.Log.Entries.map encEntry),.i .i64 x.Node.Commit,.i .i64 x.Node.Clock,.i .i64 x.Node.Limit,.row o 3 (x.Node.Votes.map encI),.row o 158 (x.Node.Peers.map encPeer),.row o 98 (x.Disk.Files.map encFile),.row o 3 (x.Shelf.Man.Segs.map encI),.i .i64 x.Shelf.Man.Next,.i .i64 x.Shelf.Man.Base,.i .i64 x.Shelf.Man.BaseTerm,.row o 3 (x.Shelf.Man.Conf.map encI),.row o 232 (x.Shelf.Dir.map encSpot),.i .i64 x.Shelf.Stamp,.s x.Stage,.i .i64 x.StageAt,.i .i64 x.StageTerm]
theorem own_encServer (x : Server) : ownCs (encServer true x) = true := by simp only [encServer,ownCs,ownC,Bool.and_self,Bool.and_true,Bool.true_and,own_rows (f := encI) (fun _ => rfl),own_rows (f := encEntry) (fun _ => rfl),own_rows (f := encI) (fun _ => rfl),own_rows (f := encPeer) (fun _ => rfl),own_rows (f := encFile) (fun _ => rfl),own_rows (f := encI) (fun _ => rfl),own_rows (f := encI) (fun _ => rfl),own_rows (f := encSpot) (fun _ => rfl)]
structure Message where
 Kind : Int
 From : Int
 To : Int
 Term : Int
 Index : Int
 LogTerm : Int
 Commit : Int
 Ok : Bool
 Entries : (List Entry)
 Conf : (List Int)
 Data : ByteArray
 Last : Bool
abbrev encMessage (o : Bool) (x : Message) : List C := [.i .i64 x.Kind,.i .i64 x.From,.i .i64 x.To,.i .i64 x.Term,.i .i64 x.Index,.i .i64 x.LogTerm,.i .i64 x.Commit,.b x.Ok,.row o 141 (x.Entries.map encEntry),.row o 3 (x.Conf.map encI),.s x.Data,.b x.Last]
theorem own_encMessage (x : Message) : ownCs (encMessage true x) = true := by simp only [encMessage,ownCs,ownC,Bool.and_self,Bool.and_true,Bool.true_and,own_rows (f := encEntry) (fun _ => rfl),own_rows (f := encI) (fun _ => rfl)]
structure Wait where
 Node : Int
 Index : Int
 Term : Int
 Call : Int
abbrev encWait (x : Wait) : List C := [.i .i64 x.Node,.i .i64 x.Index,.i .i64 x.Term,.i .i64 x.Call]
structure Leader where
 Node : Int
 Term : Int
 Log : Log
abbrev encLeader (o : Bool) (x : Leader) : List C := [.i .i64 x.Node,.i .i64 x.Term,.i .i64 x.Log.Start,.i .i64 x.Log.StartTerm,.row o 141 (x.Log.Entries.map encEntry)]
theorem own_encLeader (x : Leader) : ownCs (encLeader true x) = true := by simp only [encLeader,ownCs,ownC,Bool.and_self,Bool.and_true,Bool.true_and,own_rows (f := encEntry) (fun _ => rfl)]
structure Applied where
 Node : Int
 Term : Int
 Index : Int
 Entry : Entry
abbrev encApplied (x : Applied) : List C := [.i .i64 x.Node,.i .i64 x.Term,.i .i64 x.Index,.i .i64 x.Entry.Term,.i .i64 x.Entry.Kind,.s x.Entry.Data]
structure Reply where
 Call : Int
 Index : Int
 Command : Command
 Text : ByteArray
abbrev encReply (x : Reply) : List C := [.i .i64 x.Call,.i .i64 x.Index,.i .i64 x.Command.Op,.i .i64 x.Command.Session,.i .i64 x.Command.Seq,.s x.Command.Key,.s x.Command.Value,.s x.Command.Old,.s x.Text]
structure Raw where
 Kind : Int
 Name : ByteArray
 To : ByteArray
 Text : ByteArray
abbrev encRaw (x : Raw) : List C := [.i .i64 x.Kind,.s x.Name,.s x.To,.s x.Text]
structure Tl05Cur where
 text : ByteArray
 at' : Int
 bad : Bool
structure World where
 Up : (List Bool)
 Servers : (List Server)
 Net : (List Message)
 Waits : (List Wait)
 Leaders : (List Leader)
 Applied : (List Applied)
 Replies : (List Reply)
structure Treader where
 s : ByteArray
 at' : Int
 bad : Bool
structure Change where
 Key : ByteArray
 Value : ByteArray
 Gone : Bool
abbrev encChange (x : Change) : List C := [.s x.Key,.s x.Value,.b x.Gone]
structure Batch where
 Stamp : Int
 Changes : (List Change)
structure Tplaced where
 b : Batch
 text : ByteArray
 at' : Int
abbrev encTplaced (o : Bool) (x : Tplaced) : List C := [.i .i64 x.b.Stamp,.row o 230 (x.b.Changes.map encChange),.s x.text,.i .i64 x.at']
theorem bt3 : bytesOf Tryz.prog 3 ≤ 2048 := of_decide_eq_true (by kernel_rfl)
theorem bt4 : bytesOf Tryz.prog 4 ≤ 2048 := of_decide_eq_true (by kernel_rfl)
theorem bt5 : bytesOf Tryz.prog 5 ≤ 2048 := of_decide_eq_true (by kernel_rfl)
theorem bt9 : bytesOf Tryz.prog 9 ≤ 2048 := of_decide_eq_true (by kernel_rfl)
theorem bt53 : bytesOf Tryz.prog 53 ≤ 2048 := of_decide_eq_true (by kernel_rfl)
theorem bt83 : bytesOf Tryz.prog 83 ≤ 2048 := of_decide_eq_true (by kernel_rfl)
theorem bt98 : bytesOf Tryz.prog 98 ≤ 2048 := of_decide_eq_true (by kernel_rfl)
theorem bt107 : bytesOf Tryz.prog 107 ≤ 2048 := of_decide_eq_true (by kernel_rfl)
theorem bt141 : bytesOf Tryz.prog 141 ≤ 2048 := of_decide_eq_true (by kernel_rfl)
theorem bt232 : bytesOf Tryz.prog 232 ≤ 2048 := of_decide_eq_true (by kernel_rfl)
def spec_l20Lines_l1 (N : Nat) (x1 : ByteArray) : Nat → Int → Int → (List ByteArray) → Option (Int × (List ByteArray))
 | 0,_,_,_ => none
 | m + 1,x282,x283,x284 =>
 (if (decide (x283 < (x1.size : Int))) = true then
 joinP (fun (v325 : Int × (List ByteArray)) =>
 spec_l20Lines_l1 N x1 m v325.1 (w64 (x283 + 1)) v325.2) fun j325 =>
 (sat? x1 x283).bind fun x327 =>
 (if (x327 == 10) = true then
 (scut? x1 x282 x283).bind fun x335 =>
 (cat? x284 ([x335] : List ByteArray)).bind fun x336 =>
 j325 (w64 (x283 + 1),x336)
 else
 j325 (x282,x284))
 else
 some (x282,x284))
def spec_l20Lines (N : Nat) (x1 : ByteArray) : Option ((List ByteArray)) :=
 joinP (fun (v280 : Int × (List ByteArray)) =>
 joinP (fun (v342 : (List ByteArray)) =>
 some v342) fun j342 =>
 (if (decide (v280.1 < (x1.size : Int))) = true then
 (sdrop? x1 v280.1).bind fun x346 =>
 (cat? v280.2 ([x346] : List ByteArray)).bind fun x347 =>
 j342 x347
 else
 j342 v280.2)) fun j280 =>
 (spec_l20Lines_l1 N x1 N 0 0 ([] : List ByteArray)).bind (fun v310 => j280 (v310.1,v310.2))
theorem sem_spec_l20Lines (N : Nat) (x1 : ByteArray) (r : (List ByteArray)) (h : spec_l20Lines N x1 = some r) : Says Tryz.prog 12 [VS x1] 0 [] (.sl 0 9 0 r.length) [(0,.vec 9 (r.map encS))] := by
 unfold spec_l20Lines at h
 refine Says.of_norm e Tryz.call12 e fun B hB => ?_
 have hm : B.m ≤ 1000 := by omega
 refine Run.so hm (.p e (.nil (.so hm (.z 5096 (Ev.bsW (ys := ([] : List ByteArray)) (f := encS) e .nil e e e e e) e e (.p e (.nil (.so hm (.p e (.nil (.seqO h (fun v280 => [(0,VS x1),(3,.sl 0 9 0 v280.2.length),(4,VI v280.1)]) (fun (v280 : Int × (List ByteArray)) => [(0,.vec 9 (v280.2.map encS))]) (fun h => ?_) (fun v280 h => ?_)))))))))))
 ·refine Run.so hm (.p e (.nil (.block ?_)))
  obtain ⟨res310,h,hk310⟩ := bindO h
  refine Run.loop (n := N) (fun m310 fr σ => ∃ (x282 : Int),∃ (x283 : Int),∃ (x284 : (List ByteArray)),spec_l20Lines_l1 N x1 m310 x282 x283 x284 = some res310 ∧ fr = [(0,VS x1),(3,.sl 0 9 0 x284.length),(4,VI x282),(5,VI x283)] ∧ σ = [(0,.vec 9 (x284.map encS))]) (gh_pk [0,3,4,5] [5096] hB e e e e) ⟨_,_,_,h,e,e⟩ ?_
  rintro m310 fr σ ⟨x282,x283,x284,h,rfl,rfl⟩
  obtain _ | m310 := m310
  ·rw [spec_l20Lines_l1] at h; cases h
  rw [spec_l20Lines_l1] at h
  refine Run.seq (.so hm (.p3 e e e (.p e (.nil (.condO e h (fun g313 h => ?_) (fun g313 h => ?_))))))
  ·refine Run.skip (.seqO h (fun v325 => [(0,VS x1),(3,.sl 0 9 0 v325.2.length),(4,VI v325.1),(5,VI x283)]) (fun (v325 : Int × (List ByteArray)) => [(0,.vec 9 (v325.2.map encS))]) (fun h => ?_) (fun v325 h => ?_))
   ·refine Run.block (.so hm (.p2 e e ?_))
    obtain ⟨x327,hx327,h⟩ := bindO h
    refine Ops.z 25608 (Ev.ixS e e hx327) e e (.p e (.nil (.condO e h (fun g328 h => ?_) (fun g328 h => ?_))))
    ·refine Run.so hm (.p3 e e e (.p e ?_))
     obtain ⟨x335,hx335,h⟩ := bindO h
     refine Ops.z 29736 (Ev.ssB e e e hx335) e e (.z 29752 (Ev.bsW (ys := ([x335] : List ByteArray)) (f := encS) e (.d1 .nil) e e e e e) e e ?_)
     obtain ⟨x336,hx336,h⟩ := bindO h
     exact Ops.z 29768 (Ev.apW (f := encS) (ontoW e e e) (addsW e e e (fun _ => e)) e bt9 e hx336) e e (.p e (.nil (.ops hm (.p3 e e e (.nil (⟨_,_,(gh_pk [0,3,4,5] [29768] hB e e e e),_,h,e,e⟩))))))
    ·exact Run.skip (⟨_,_,(gh_pk [0,3,4,5] [0] hB e e e e),_,h,e,e⟩)
   ·exact Run.ops hm (.p3 e e e (.nil (⟨m310,Nat.lt_succ_self m310,_,_,(gh_pk [0,3,4,5] [0] hB e e e e),_,_,_,h,e,e⟩)))
  ·refine Run.exit ?_
   obtain rfl := someO h
   have h := hk310
   exact ⟨_,_,(gh_pk [0,3,4] [0] hB e e e e),_,h,e,e⟩
 ·refine Run.seqO h (fun v342 => [(3,.sl 0 9 0 v342.length)]) (fun (v342 : (List ByteArray)) => [(0,.vec 9 (v342.map encS))]) (fun h => ?_) (fun v342 h => ?_)
  ·refine Run.so hm (.p3 e e e (.p e (.nil (.condO e h (fun g343 h => ?_) (fun g343 h => ?_)))))
   ·refine Run.ops hm (.p3 e e e ?_)
    obtain ⟨x346,hx346,h⟩ := bindO h
    refine Ops.z 42008 (Ev.ssL e e hx346) e e (.z 42024 (Ev.bsW (ys := ([x346] : List ByteArray)) (f := encS) e (.d1 .nil) e e e e e) e e ?_)
    obtain ⟨x347,hx347,h⟩ := bindO h
    exact Ops.z 42040 (Ev.apW (f := encS) (ontoW e e e) (addsW e e e (fun _ => e)) e bt9 e hx347) e e (.p e (.nil (⟨_,_,(gh_pk [3] [42040] hB e e e e),_,h,e,e⟩)))
   ·exact Run.skip (⟨_,_,(gh_pk [3] [0] hB e e e e),_,h,e,e⟩)
  ·refine Run.so hm (.p2 e e (.nil (.ret ?_)))
   obtain rfl := someO h
   exact Ends.mkG (.inl e) e (gh_pk [0] [0] hB e e e e) e e
def spec_PartsOf_l1 (N : Nat) (x1 : ByteArray) : Nat → Int → Int → (List ByteArray) → Option (((List ByteArray) × Bool) ⊕ ((List ByteArray)))
 | 0,_,_,_ => none
 | m + 1,x640,x641,x642 =>
 (if (decide (x641 ≤ (x1.size : Int))) = true then
 joinP (fun (v774 : Int × (List ByteArray)) =>
 spec_PartsOf_l1 N x1 m v774.1 (w64 (x641 + 1)) v774.2) fun j774 =>
 joinP (fun (v784 : Unit) =>
 joinP (fun (v799 : Unit) =>
 joinP (fun (v810 : (List ByteArray)) =>
 j774 (w64 (x641 + 1),v810)) fun j810 =>
 (if (decide (x640 < x641)) = true then
 (scut? x1 x640 x641).bind fun x814 =>
 (cat? x642 ([x814] : List ByteArray)).bind fun x815 =>
 j810 x815
 else
 j810 x642)) fun j799 =>
 (if (decide (x641 < (x1.size : Int))) = true then
 (sat? x1 x641).bind fun x803 =>
 (if (x803 != 32) = true then
 j774 (x640,x642)
 else
 j799 ())
 else
 j799 ())) fun j784 =>
 (if (decide (x641 < (x1.size : Int))) = true then
 (sat? x1 x641).bind fun x790 =>
 (if (decide (x790 < 32)) = true then
 some (Sum.inl (([] : List ByteArray),false))
 else
 (sat? x1 x641).bind fun x792 =>
 (if (decide (x792 > 126)) = true then
 some (Sum.inl (([] : List ByteArray),false))
 else
 j784 ()))
 else
 j784 ())
 else
 some (Sum.inr x642))
def spec_PartsOf (N : Nat) (x1 : ByteArray) : Option ((List ByteArray) × Bool) :=
 (if (decide ((x1.size : Int) > 600)) = true then
 some (([] : List ByteArray),false)
 else
 joinP (fun (v638 : (List ByteArray)) =>
 (if (decide (((v638.length : Nat) : Int) > 10)) = true then
 some (([] : List ByteArray),false)
 else
 some (v638,true))) fun j638 =>
 (spec_PartsOf_l1 N x1 N 0 0 ([] : List ByteArray)).bind (Sum.elim (fun v728 => some v728) (fun (v729 : (List ByteArray)) => j638 v729)))
theorem sem_spec_PartsOf (N : Nat) (x1 : ByteArray) (r : (List ByteArray) × Bool) (h : spec_PartsOf N x1 = some r) : Says Tryz.prog 13 [VS x1] 0 [] (.tup [.sl 0 9 0 r.1.length,VB r.2]) [(0,.vec 9 (r.1.map encS))] := by
 unfold spec_PartsOf at h
 refine Says.of_norm e Tryz.call13 e fun B hB => ?_
 have hm : B.m ≤ 1000 := by omega
 refine Run.so hm (.p2 e e (.nil (.so hm (.z 5096 (Ev.bsW (ys := ([] : List ByteArray)) (f := encS) e .nil e e e e e) e e (.p e (.nil (.seq (.so hm (.p3 e e e (.nil (.condO e h (fun g460 h => ?_) (fun g460 h => ?_))))))))))))
 ·refine Run.so hm (.p3 e e e (.nil (.ret ?_)))
  obtain rfl := someO h
  exact Ends.mkG (.inl e) e (gh_pk [0,1] [5096] hB e e e e) e e
 ·refine Run.skip (.so hm (.p e (.nil (.seqO h (fun v638 => [(4,.sl 0 9 0 v638.length)]) (fun (v638 : (List ByteArray)) => [(0,.vec 9 (v638.map encS))]) (fun h => ?_) (fun v638 h => ?_)))))
  ·refine Run.so hm (.p e (.nil (.block ?_)))
   obtain ⟨res729,h,hk729⟩ := bindO h
   refine Run.loop (n := N) (fun m729 fr σ => ∃ (x640 : Int),∃ (x641 : Int),∃ (x642 : (List ByteArray)),spec_PartsOf_l1 N x1 m729 x640 x641 x642 = some res729 ∧ fr = [(0,VS x1),(4,.sl 0 9 0 x642.length),(5,VI x640),(6,VI x641)] ∧ σ = [(0,.vec 9 (x642.map encS))]) (gh_pk [0,4,5,6] [5096] hB e e e e) ⟨_,_,_,h,e,e⟩ ?_
   rintro m729 fr σ ⟨x640,x641,x642,h,rfl,rfl⟩
   obtain _ | m729 := m729
   ·rw [spec_PartsOf_l1] at h; cases h
   rw [spec_PartsOf_l1] at h
   refine Run.seq (.so hm (.p3 e e e (.p e (.nil (.condO e h (fun g732 h => ?_) (fun g732 h => ?_))))))
   ·refine Run.skip (.seqO h (fun v774 => [(0,VS x1),(4,.sl 0 9 0 v774.2.length),(5,VI v774.1),(6,VI x641)]) (fun (v774 : Int × (List ByteArray)) => [(0,.vec 9 (v774.2.map encS))]) (fun h => ?_) (fun v774 h => ?_))
    ·refine Run.block (.seqO h (fun v784 => [(0,VS x1),(4,.sl 0 9 0 x642.length),(5,VI x640),(6,VI x641)]) (fun (v784 : Unit) => [(0,.vec 9 (x642.map encS))]) (fun h => ?_) (fun v784 h => ?_))
     ·refine Run.so hm (.p3 e e e (.p2 e e (.askO (x := .t 22) e h (fun g789 h => ?_) (fun g789 h => ?_))))
      ·refine Ops.gp e g789 e (.gp e g789 e ?_)
       obtain ⟨x790,hx790,h⟩ := bindO h
       refine Ops.gs (s := 33880) e g789 (Ev.ixS e e hx790) e e (.gp e g789 e (.gp e g789 e (.askO (x := .t 27) e h (fun g791 h => ?_) (fun g791 h => ?_))))
       ·refine Ops.gn e g791 (.gn e g791 (.gn e g791 (.gn e g791 (.gs (s := 33992) e g789 (.pkT e g791 e) e e (.z 34008 (.pkT e g789 e) e e (.nil (.condT e e (.so hm (.z 37864 (Ev.bsW (ys := ([] : List ByteArray)) (f := encS) e .nil e e e e e) e e (.p2 e e (.nil (.ret ?_))))))))))))
        obtain rfl := someO h
        have h := hk729
        replace h := inlO h
        obtain rfl := someO h
        exact Ends.mkG (.inl e) e (gh_pk [0,1] [37864] hB e e e e) e e
       ·refine Ops.gp e g791 e (.gp e g791 e ?_)
        obtain ⟨x792,hx792,h⟩ := bindO h
        refine Ops.gs (s := 33960) e g791 (Ev.ixS e e hx792) e e (.gp e g791 e (.gs (s := 33992) e g789 (.pkF e g791 e) e e (.z 34008 (.pkT e g789 e) e e (.nil (.condO e h (fun g793 h => ?_) (fun g793 h => ?_))))))
        ·refine Run.so hm (.z 37864 (Ev.bsW (ys := ([] : List ByteArray)) (f := encS) e .nil e e e e e) e e (.p2 e e (.nil (.ret ?_))))
         obtain rfl := someO h
         have h := hk729
         replace h := inlO h
         obtain rfl := someO h
         exact Ends.mkG (.inl e) e (gh_pk [0,1] [37864] hB e e e e) e e
        ·exact Run.skip (⟨_,_,(gh_pk [0,4,5,6] [0] hB e e e e),(),h,e,e⟩)
      ·exact Ops.gn e g789 (.gn e g789 (.gn e g789 (.gn e g789 (.gn e g789 (.gu e (.gu e (.gu e (.gu e (.gn e g789 (.z 34008 (.pkF e g789 e) e e (.nil (.condF e e (.skip (⟨_,_,(gh_pk [0,4,5,6] [0] hB e e e e),(),h,e,e⟩))))))))))))))
     ·refine Run.seqO h (fun v799 => [(0,VS x1),(4,.sl 0 9 0 x642.length),(5,VI x640),(6,VI x641)]) (fun (v799 : Unit) => [(0,.vec 9 (x642.map encS))]) (fun h => ?_) (fun v799 h => ?_)
      ·refine Run.so hm (.p3 e e e (.p2 e e (.askO (x := .t 39) e h (fun g802 h => ?_) (fun g802 h => ?_))))
       ·refine Ops.gp e g802 e (.gp e g802 e ?_)
        obtain ⟨x803,hx803,h⟩ := bindO h
        refine Ops.gs (s := 42072) e g802 (Ev.ixS e e hx803) e e (.gp e g802 e (.z 42104 (.pkT e g802 e) e e (.nil (.condO e h (fun g804 h => ?_) (fun g804 h => ?_)))))
        ·exact Run.exit (⟨_,_,(gh_pk [0,4,5,6] [0] hB e e e e),_,h,e,e⟩)
        ·exact Run.skip (⟨_,_,(gh_pk [0,4,5,6] [0] hB e e e e),(),h,e,e⟩)
       ·exact Ops.gn e g802 (.gn e g802 (.gn e g802 (.gn e g802 (.z 42104 (.pkF e g802 e) e e (.nil (.condF e e (.skip (⟨_,_,(gh_pk [0,4,5,6] [0] hB e e e e),(),h,e,e⟩))))))))
      ·refine Run.seqO h (fun v810 => [(0,VS x1),(4,.sl 0 9 0 v810.length),(6,VI x641)]) (fun (v810 : (List ByteArray)) => [(0,.vec 9 (v810.map encS))]) (fun h => ?_) (fun v810 h => ?_)
       ·refine Run.so hm (.p3 e e e (.nil (.condO e h (fun g811 h => ?_) (fun g811 h => ?_))))
        ·refine Run.ops hm (.p3 e e e (.p e ?_))
         obtain ⟨x814,hx814,h⟩ := bindO h
         refine Ops.z 50216 (Ev.ssB e e e hx814) e e (.z 50232 (Ev.bsW (ys := ([x814] : List ByteArray)) (f := encS) e (.d1 .nil) e e e e e) e e ?_)
         obtain ⟨x815,hx815,h⟩ := bindO h
         exact Ops.z 50248 (Ev.apW (f := encS) (ontoW e e e) (addsW e e e (fun _ => e)) e bt9 e hx815) e e (.p e (.nil (⟨_,_,(gh_pk [0,4,6] [50248] hB e e e e),_,h,e,e⟩)))
        ·exact Run.skip (⟨_,_,(gh_pk [0,4,6] [0] hB e e e e),_,h,e,e⟩)
       ·exact Run.ops hm (.p3 e e e (.nil (⟨_,_,(gh_pk [0,4,5,6] [0] hB e e e e),_,h,e,e⟩)))
    ·exact Run.ops hm (.p3 e e e (.nil (⟨m729,Nat.lt_succ_self m729,_,_,(gh_pk [0,4,5,6] [0] hB e e e e),_,_,_,h,e,e⟩)))
   ·refine Run.exit ?_
    obtain rfl := someO h
    have h := hk729
    replace h := inrO h
    exact ⟨_,_,(gh_pk [4] [0] hB e e e e),_,h,e,e⟩
  ·refine Run.seq (.so hm (.p3 e e e (.nil (.condO e h (fun g817 h => ?_) (fun g817 h => ?_)))))
   ·refine Run.so hm (.z 62440 (Ev.bsW (ys := ([] : List ByteArray)) (f := encS) e .nil e e e e e) e e (.p2 e e (.nil (.ret ?_))))
    obtain rfl := someO h
    exact Ends.mkG (.inl e) e (gh_pk [0,1] [62440] hB e e e e) e e
   ·refine Run.skip (.so hm (.p3 e e e (.nil (.ret ?_))))
    obtain rfl := someO h
    exact Ends.mkG (.inl e) e (gh_pk [0,1] [0] hB e e e e) e e
def spec_l01Figure (N : Nat) (x1 : Int) : Option (Int) :=
 (if (decide (x1 < 10)) = true then
 some (IntKind.wrap .u8 (w64 (48 + x1)))
 else
 some (IntKind.wrap .u8 (w64 ((w64 (97 + x1)) - 10))))
theorem sem_spec_l01Figure (N : Nat) (x1 : Int) (r : Int) (h : spec_l01Figure N x1 = some r) : Says Tryz.prog 46 [VI x1] 0 [] (.c (.i .u8 r)) [] := by
 unfold spec_l01Figure at h
 refine Says.of_norm e Tryz.call46 e fun B hB => ?_
 have hm : B.m ≤ 1000 := by omega
 refine Run.so hm (.p e (.nil (.seq (.so hm (.p2 e e (.nil (.condO e h (fun g103 h => ?_) (fun g103 h => ?_))))))))
 ·refine Run.so hm (.p3 e e e (.p e (.nil (.ret ?_))))
  obtain rfl := someO h
  exact Ends.mkG (.inl e) e (gh_pk [0] [] hB e e e e) e e
 ·refine Run.skip (.so hm (.p3 e e e (.p2 e e (.nil (.ret ?_)))))
  obtain rfl := someO h
  exact Ends.mkG (.inl e) e (gh_pk [0] [] hB e e e e) e e
def spec_Decimal_l1 (N : Nat) : Nat → Int → ByteArray → Option (ByteArray)
 | 0,_,_ => none
 | m + 1,x241,x243 =>
 (if (x241 != 0) = true then
 (intD .rem .i64 x241 10).bind fun x270 =>
 joinP (fun (v272 : Int) =>
 (spec_l01Figure N v272).bind fun y280 =>
 (scat? (strOf ([y280] : List Int)) x243).bind fun x281 =>
 (intD .quo .i64 x241 10).bind fun x283 =>
 spec_Decimal_l1 N m x283 x281) fun j272 =>
 (if (decide (x270 < 0)) = true then
 j272 (w64 ((-x270)))
 else
 j272 x270)
 else
 some x243)
def spec_Decimal (N : Nat) (x1 : Int) : Option (ByteArray) :=
 (if (x1 == 0) = true then
 some (⟨#[48]⟩ : ByteArray)
 else
 joinP (fun (v240 : ByteArray) =>
 (if (decide (x1 < 0)) = true then
 (scat? (⟨#[45]⟩ : ByteArray) v240).bind fun x289 =>
 some x289
 else
 some v240)) fun j240 =>
 (spec_Decimal_l1 N N x1 (⟨#[]⟩ : ByteArray)).bind (fun v263 => j240 v263))
theorem sem_spec_Decimal (N : Nat) (x1 : Int) (r : ByteArray) (h : spec_Decimal N x1 = some r) : Says Tryz.prog 26 [VI x1] 0 [] (VS r) [] := by
 unfold spec_Decimal at h
 refine Says.of_norm e Tryz.call26 e fun B hB => ?_
 have hm : B.m ≤ 1000 := by omega
 refine Run.so hm (.p e (.nil (.seq (.so hm (.p2 e e (.nil (.condO e h (fun g196 h => ?_) (fun g196 h => ?_))))))))
 ·refine Run.so hm (.p e (.nil (.ret ?_)))
  obtain rfl := someO h
  exact Ends.mkG (.inl e) e (gh_pk [0] [] hB e e e e) e e
 ·refine Run.skip (.so hm (.p3 e e e (.nil (.so hm (.p e (.nil (.seqO h (fun v240 => [(3,VB (decide (x1 < 0))),(4,VS v240)]) (fun (v240 : ByteArray) => []) (fun h => ?_) (fun v240 h => ?_))))))))
  ·refine Run.block ?_
   obtain ⟨res263,h,hk263⟩ := bindO h
   refine Run.loop (n := N) (fun m263 fr σ => ∃ (x241 : Int),∃ (x243 : ByteArray),spec_Decimal_l1 N m263 x241 x243 = some res263 ∧ fr = [(0,VI x241),(3,VB (decide (x1 < 0))),(4,VS x243)] ∧ σ = []) (gh_pk [0,3,4] [] hB e e e e) ⟨_,_,h,e,e⟩ ?_
   rintro m263 fr σ ⟨x241,x243,h,rfl,rfl⟩
   obtain _ | m263 := m263
   ·rw [spec_Decimal_l1] at h; cases h
   rw [spec_Decimal_l1] at h
   refine Run.seq (.so hm (.p2 e e (.nil (.condO e h (fun g266 h => ?_) (fun g266 h => ?_)))))
   ·refine Run.skip (.block (.so hm (.p e ?_)))
    obtain ⟨x270,hx270,h⟩ := bindO h
    refine Ops.z 25592 (.bin e e hx270) e e (.p e (.nil (.seqO h (fun v272 => [(0,VI x241),(3,VB (decide (x1 < 0))),(4,VS x243),(5,VI v272)]) (fun (v272 : Int) => []) (fun h => ?_) (fun v272 h => ?_))))
    ·refine Run.so hm (.p2 e e (.nil (.condO e h (fun g273 h => ?_) (fun g273 h => ?_))))
     ·exact Run.ops hm (.p3 e e e (.nil (⟨_,_,(gh_pk [0,3,4,5] [] hB e e e e),_,h,e,e⟩)))
     ·exact Run.skip (⟨_,_,(gh_pk [0,3,4,5] [] hB e e e e),_,h,e,e⟩)
    ·refine Run.so hm (.p e ?_)
     obtain ⟨y280,hy280,h⟩ := bindO h
     refine Ops.z 37880 (Ev.call [] [] 0 (sem_spec_l01Figure _ _ _ hy280) e e (.d1 .nil) e (.inl e) e e) e e (.z 37896 (Ev.bsW (ys := ([y280] : List Int)) (f := encU) e (.d1 .nil) e e e e e) e e (.z 37912 (.sbC (addsW (f := encU) e e e (fun _ => e))) e e (.p e ?_)))
     obtain ⟨x281,hx281,h⟩ := bindO h
     refine Ops.z 37944 (Ev.addS e e hx281) e e (.p e (.nil (.ops hm (.p e ?_))))
     obtain ⟨x283,hx283,h⟩ := bindO h
     exact Ops.z 41976 (.bin e e hx283) e e (.p e (.nil (⟨m263,Nat.lt_succ_self m263,_,_,(gh_pk [0,3,4] [] hB e e e e),_,_,h,e,e⟩)))
   ·refine Run.exit ?_
    obtain rfl := someO h
    have h := hk263
    exact ⟨_,_,(gh_pk [3,4] [] hB e e e e),_,h,e,e⟩
  ·refine Run.seq (.so hm (.p e (.nil (.condO e h (fun g287 h => ?_) (fun g287 h => ?_)))))
   ·refine Run.so hm (.p e ?_)
    obtain ⟨x289,hx289,h⟩ := bindO h
    refine Ops.z 50168 (Ev.addS e e hx289) e e (.p e (.nil (.ret ?_)))
    obtain rfl := someO h
    exact Ends.mkG (.inl e) e (gh_pk [0] [] hB e e e e) e e
   ·refine Run.skip (.so hm (.p2 e e (.nil (.ret ?_))))
    obtain rfl := someO h
    exact Ends.mkG (.inl e) e (gh_pk [0] [] hB e e e e) e e
def spec_ReadDecimal_l1 (N : Nat) (x1 : ByteArray) : Nat → Int → Int → Option ((Int × Bool) ⊕ (Int))
 | 0,_,_ => none
 | m + 1,x339,x340 =>
 (if (decide (x340 < (x1.size : Int))) = true then
 (sat? x1 x340).bind fun x406 =>
 (if (decide (x406 < 48)) = true then
 some (Sum.inl (0,false))
 else
 (sat? x1 x340).bind fun x408 =>
 (if (decide (x408 > 57)) = true then
 some (Sum.inl (0,false))
 else
 (sat? x1 x340).bind fun x411 =>
 spec_ReadDecimal_l1 N x1 m (w64 ((w64 ((w64 (10 * x339)) + (w64 (x411)))) - 48)) (w64 (x340 + 1))))
 else
 some (Sum.inr x339))
def spec_ReadDecimal (N : Nat) (x1 : ByteArray) : Option (Int × Bool) :=
 (if (decide ((x1.size : Int) > 10)) = true then
 some (0,false)
 else
 joinP (fun (v337 : Int) =>
 (if (decide (v337 > 1000000000)) = true then
 some (0,false)
 else
 (spec_Decimal N v337).bind fun y420 =>
 (if (!decide (y420 = x1)) = true then
 some (0,false)
 else
 some (v337,true)))) fun j337 =>
 (spec_ReadDecimal_l1 N x1 N 0 0).bind (Sum.elim (fun v375 => some v375) (fun (v376 : Int) => j337 v376)))
theorem sem_spec_ReadDecimal (N : Nat) (x1 : ByteArray) (r : Int × Bool) (h : spec_ReadDecimal N x1 = some r) : Says Tryz.prog 14 [VS x1] 0 [] (.tup [VI r.1,VB r.2]) [] := by
 unfold spec_ReadDecimal at h
 refine Says.of_norm e Tryz.call14 e fun B hB => ?_
 have hm : B.m ≤ 1000 := by omega
 refine Run.so hm (.p2 e e (.nil (.seq (.so hm (.p3 e e e (.nil (.condO e h (fun g262 h => ?_) (fun g262 h => ?_))))))))
 ·refine Run.so hm (.p2 e e (.nil (.ret ?_)))
  obtain rfl := someO h
  exact Ends.mkG (.inl e) e (gh_pk [0,1] [] hB e e e e) e e
 ·refine Run.skip (.so hm (.p e (.nil (.seqO h (fun v337 => [(0,VS x1),(4,VI v337)]) (fun (v337 : Int) => []) (fun h => ?_) (fun v337 h => ?_)))))
  ·refine Run.so hm (.p e (.nil (.block ?_)))
   obtain ⟨res376,h,hk376⟩ := bindO h
   refine Run.loop (n := N) (fun m376 fr σ => ∃ (x339 : Int),∃ (x340 : Int),spec_ReadDecimal_l1 N x1 m376 x339 x340 = some res376 ∧ fr = [(0,VS x1),(4,VI x339),(5,VI x340)] ∧ σ = []) (gh_pk [0,4,5] [] hB e e e e) ⟨_,_,h,e,e⟩ ?_
   rintro m376 fr σ ⟨x339,x340,h,rfl,rfl⟩
   obtain _ | m376 := m376
   ·rw [spec_ReadDecimal_l1] at h; cases h
   rw [spec_ReadDecimal_l1] at h
   refine Run.seq (.so hm (.p3 e e e (.p e (.nil (.condO e h (fun g379 h => ?_) (fun g379 h => ?_))))))
   ·refine Run.skip (.seq (.block (.seq (.so hm (.p2 e e ?_)))))
    obtain ⟨x406,hx406,h⟩ := bindO h
    refine Ops.z 29704 (Ev.ixS e e hx406) e e (.p2 e e (.askO (x := .t 19) e h (fun g407 h => ?_) (fun g407 h => ?_)))
    ·refine Ops.gn e g407 (.gn e g407 (.gn e g407 (.gn e g407 (.z 29816 (.pkT e g407 e) e e (.nil (.condT e e (.so hm (.p2 e e (.nil (.ret ?_))))))))))
     obtain rfl := someO h
     have h := hk376
     replace h := inlO h
     obtain rfl := someO h
     exact Ends.mkG (.inl e) e (gh_pk [0,1] [] hB e e e e) e e
    ·refine Ops.gp e g407 e (.gp e g407 e ?_)
     obtain ⟨x408,hx408,h⟩ := bindO h
     refine Ops.gs (s := 29784) e g407 (Ev.ixS e e hx408) e e (.gp e g407 e (.z 29816 (.pkF e g407 e) e e (.nil (.condO e h (fun g409 h => ?_) (fun g409 h => ?_)))))
     ·refine Run.so hm (.p2 e e (.nil (.ret ?_)))
      obtain rfl := someO h
      have h := hk376
      replace h := inlO h
      obtain rfl := someO h
      exact Ends.mkG (.inl e) e (gh_pk [0,1] [] hB e e e e) e e
     ·refine Run.skip (.ops hm (.p3 e e e (.p e ?_)))
      obtain ⟨x411,hx411,h⟩ := bindO h
      exact Ops.z 37928 (Ev.ixS e e hx411) e e (.p3 e e e (.p e (.nil (.ops hm (.p3 e e e (.nil (⟨m376,Nat.lt_succ_self m376,_,_,(gh_pk [0,4,5] [] hB e e e e),_,_,h,e,e⟩)))))))
   ·refine Run.exit ?_
    obtain rfl := someO h
    have h := hk376
    replace h := inrO h
    exact ⟨_,_,(gh_pk [0,4] [] hB e e e e),_,h,e,e⟩
  ·refine Run.seq (.so hm (.p3 e e e (.askO (x := .t 35) e h (fun g419 h => ?_) (fun g419 h => ?_))))
   ·refine Ops.gn e g419 (.gn e g419 (.gn e g419 (.gn e g419 (.z 42072 (.pkT e g419 e) e e (.nil (.condT e e (.so hm (.p2 e e (.nil (.ret ?_))))))))))
    obtain rfl := someO h
    exact Ends.mkG (.inl e) e (gh_pk [0,1] [] hB e e e e) e e
   ·refine Ops.gp e g419 e ?_
    obtain ⟨y420,hy420,h⟩ := bindO h
    refine Ops.gs (s := 42024) e g419 (Ev.call [] [] 0 (sem_spec_Decimal _ _ _ hy420) e e (.d1 .nil) e (.inl e) e e) e e (.gp e g419 e (.gp e g419 e (.z 42072 (.pkF e g419 e) e e (.nil (.condO e h (fun g421 h => ?_) (fun g421 h => ?_))))))
    ·refine Run.so hm (.p2 e e (.nil (.ret ?_)))
     obtain rfl := someO h
     exact Ends.mkG (.inl e) e (gh_pk [0,1] [] hB e e e e) e e
    ·refine Run.skip (.so hm (.p3 e e e (.nil (.ret ?_))))
     obtain rfl := someO h
     exact Ends.mkG (.inl e) e (gh_pk [0,1] [] hB e e e e) e e
def spec_l01In (N : Nat) (x1 : Int) (x2 : Int) (x3 : Int) : Option (Bool) :=
 (if (decide (x1 ≥ x2)) = true then
 some (decide (x1 ≤ x3))
 else
 some false)
theorem sem_spec_l01In (N : Nat) (x1 : Int) (x2 : Int) (x3 : Int) (r : Bool) (h : spec_l01In N x1 x2 x3 = some r) : Says Tryz.prog 29 [VI x1,VI x2,VI x3] 0 [] (VB r) [] := by
 unfold spec_l01In at h
 refine Says.of_norm e Tryz.call29 e fun B hB => ?_
 have hm : B.m ≤ 1000 := by omega
 refine Run.so hm (.p e (.nil (.so hm (.p3 e e e (.p e (.askO (x := .t 10) e h (fun g103 h => ?_) (fun g103 h => ?_)))))))
 ·refine Ops.gp e g103 e (.gp e g103 e (.gp e g103 e (.z 5208 (.pkT e g103 e) e e (.p e (.nil (.ret ?_))))))
  obtain rfl := someO h
  exact Ends.mkG (.inl e) e (gh_pk [0] [] hB e e e e) e e
 ·refine Ops.gn e g103 (.gn e g103 (.gn e g103 (.z 5208 (.pkF e g103 e) e e (.p e (.nil (.ret ?_))))))
  obtain rfl := someO h
  exact Ends.mkG (.inl e) e (gh_pk [0] [] hB e e e e) e e
def spec_l07Rise_l1 (N : Nat) (x1 : (List Int)) (x2 : Int) (x3 : Int) : Nat → Int → Option ((Bool) ⊕ (Unit))
 | 0,_ => none
 | m + 1,x300 =>
 (if (decide (x300 < (x1.length : Int))) = true then
 joinP (fun (v348 : Unit) =>
 spec_l07Rise_l1 N x1 x2 x3 m (w64 (x300 + 1))) fun j348 =>
 (at? x1 x300).bind fun x355 =>
 (spec_l01In N x355 x2 x3).bind fun y356 =>
 (if (!y356) = true then
 some (Sum.inl false)
 else
 (if (decide (x300 > 0)) = true then
 (at? x1 (w64 (x300 - 1))).bind fun x359 =>
 (at? x1 x300).bind fun x360 =>
 (if (decide (x359 ≥ x360)) = true then
 some (Sum.inl false)
 else
 j348 ())
 else
 j348 ()))
 else
 some (Sum.inr ()))
def spec_l07Rise_l1_r (N : Nat) (x1 : (List Int)) (x2 : Int) (x3 : Int) : (List Int) → Int → Option ((Bool) ⊕ (Unit))
 | [],x300 =>
 some (Sum.inr ())
 | hd :: tl,x300 =>
 joinP (fun (v348 : Unit) =>
 spec_l07Rise_l1_r N x1 x2 x3 tl (w64 (x300 + 1))) fun j348 =>
 (some hd).bind fun x355 =>
 (spec_l01In N x355 x2 x3).bind fun y356 =>
 (if (!y356) = true then
 some (Sum.inl false)
 else
 (if (decide (x300 > 0)) = true then
 (at? x1 (w64 (x300 - 1))).bind fun x359 =>
 (some hd).bind fun x360 =>
 (if (decide (x359 ≥ x360)) = true then
 some (Sum.inl false)
 else
 j348 ())
 else
 j348 ()))
theorem spec_l07Rise_l1_rng (N : Nat) (x1 : (List Int)) (x2 : Int) (x3 : Int) (hx : x1.length ≤ 1099511627776) : ∀ (d k m : Nat),x1.length = k + d → d < m → spec_l07Rise_l1 N x1 x2 x3 m (k : Int) = spec_l07Rise_l1_r N x1 x2 x3 (x1.drop k) (k : Int) := by
 intro d
 induction d with
 | zero =>
  intro k m hd hm
  obtain ⟨m,rfl⟩ : ∃ q,m = q + 1 := ⟨m - 1,by omega⟩
  rw [spec_l07Rise_l1,if_neg (by simp; omega),List.drop_eq_nil_of_le (by omega),spec_l07Rise_l1_r]
 | succ d ih =>
  intro k m hd hm
  obtain ⟨m,rfl⟩ : ∃ q,m = q + 1 := ⟨m - 1,by omega⟩
  have hk : k < x1.length := by omega
  rw [spec_l07Rise_l1,if_pos (by simp; omega),List.drop_eq_getElem_cons hk,spec_l07Rise_l1_r]
  have h1 := at_lt hk
  have h2 := w64_succ (k := k) (by omega)
  have h3 := ih (k + 1) m
  simp only [h1,h2,h3 (by omega) (by omega)]
theorem spec_l07Rise_l1_eq {N : Nat} (x1 : (List Int)) (x2 : Int) (x3 : Int) (hx : x1.length ≤ 1099511627776) (hN : x1.length < N) : spec_l07Rise_l1 N x1 x2 x3 N 0 = spec_l07Rise_l1_r N x1 x2 x3 x1 0 := spec_l07Rise_l1_rng N x1 x2 x3 hx x1.length 0 N (by omega) hN
def spec_l07Rise (N : Nat) (x1 : (List Int)) (x2 : Int) (x3 : Int) : Option (Bool) :=
 joinP (fun (v296 : Unit) =>
 some true) fun j296 =>
 (spec_l07Rise_l1 N x1 x2 x3 N 0).bind (Sum.elim (fun v330 => some v330) (fun (v331 : Unit) => j296 ()))
theorem sem_spec_l07Rise (N : Nat) (x1 : (List Int)) (x2 : Int) (x3 : Int) (r : Bool) (h : spec_l07Rise N x1 x2 x3 = some r) : Says Tryz.prog 47 [RO 3 (x1.map encI),VI x2,VI x3] 0 [] (VB r) [] := by
 unfold spec_l07Rise at h
 refine Says.of_norm e Tryz.call47 e fun B hB => ?_
 have hm : B.m ≤ 1000 := by omega
 refine Run.so hm (.p e (.nil (.seqO h (fun v296 => []) (fun (v296 : Unit) => []) (fun h => ?_) (fun v296 h => ?_))))
 ·refine Run.so hm (.p e (.nil (.block ?_)))
  obtain ⟨res331,h,hk331⟩ := bindO h
  refine Run.loop (n := N) (fun m331 fr σ => ∃ (x300 : Int),spec_l07Rise_l1 N x1 x2 x3 m331 x300 = some res331 ∧ fr = [(0,RO 3 (x1.map encI)),(1,VI x2),(2,VI x3),(7,VI x300)] ∧ σ = []) (gh_pk [0,1,2,7] [] hB e e e e) ⟨_,h,e,e⟩ ?_
  rintro m331 fr σ ⟨x300,h,rfl,rfl⟩
  obtain _ | m331 := m331
  ·rw [spec_l07Rise_l1] at h; cases h
  rw [spec_l07Rise_l1] at h
  refine Run.seq (.so hm (.p2 e e (.z 9224 (Ev.lnF e) e e (.p e (.nil (.condO e h (fun g334 h => ?_) (fun g334 h => ?_)))))))
  ·refine Run.skip (.seqO h (fun v348 => [(0,RO 3 (x1.map encI)),(1,VI x2),(2,VI x3),(7,VI x300)]) (fun (v348 : Unit) => []) (fun h => ?_) (fun v348 h => ?_))
   ·refine Run.block (.seq (.draw hm hmix (.p e (.p e ?_))))
    obtain ⟨x355,hx355,h⟩ := bindO h
    refine OpsD.z 17416 (Ev.iaF e e hx355) e e (.p e (.p e (.p e ?_)))
    obtain ⟨y356,hy356,h⟩ := bindO h
    refine OpsD.z 17480 (Ev.call [] [] 0 (sem_spec_l01In _ _ _ _ _ hy356) e e (.d2 (.d1 .nil)) e (.inl e) e e) e e (.p e (.p e (.askO (x := .t 22) e h (fun g357 h => ?_) (fun g357 h => ?_))))
    ·refine OpsD.gn e g357 (.gn e g357 (.gn e g357 (.gu e (.gu e (.gu e (.gu e (.gu e (.gu e (.gu e (.gu e (.gu e (.gu e (.gn e g357 (.z 17752 (.pkT e g357 e) e e (.nil ⟨by kernel_rfl,?_⟩)))))))))))))))
     refine Run.condT e e (.so hm (.p e (.nil (.ret ?_))))
     obtain rfl := someO h
     have h := hk331
     replace h := inlO h
     obtain rfl := someO h
     exact Ends.mkG (.inl e) e (gh_pk [0] [] hB e e e e) e e
    ·refine OpsD.gp e g357 e (.gp e g357 e (.gp e g357 e (.askO (x := .t 25) e h (fun g358 h => ?_) (fun g358 h => ?_))))
     ·refine OpsD.gp e g358 e (.gp e g358 e (.gp e g358 e ?_))
      obtain ⟨x359,hx359,h⟩ := bindO h
      refine OpsD.gs (s := 17624) e g358 (Ev.iaF e e hx359) e e (.gp e g358 e (.gp e g358 e (.gp e g358 e ?_)))
      obtain ⟨x360,hx360,h⟩ := bindO h
      refine OpsD.gs (s := 17688) e g358 (Ev.iaF e e hx360) e e (.gp e g358 e (.gp e g358 e (.gs (s := 17736) e g357 (.pkT e g358 e) e e (.z 17752 (.pkF e g357 e) e e (.nil ⟨by kernel_rfl,?_⟩)))))
      refine Run.condO e h (fun g361 h => ?_) (fun g361 h => ?_)
      ·refine Run.so hm (.p e (.nil (.ret ?_)))
       obtain rfl := someO h
       have h := hk331
       replace h := inlO h
       obtain rfl := someO h
       exact Ends.mkG (.inl e) e (gh_pk [0] [] hB e e e e) e e
      ·exact Run.skip (⟨_,_,(gh_pk [0,1,2,7] [] hB e e e e),(),h,e,e⟩)
     ·refine OpsD.gn e g358 (.gn e g358 (.gn e g358 (.gn e g358 (.gn e g358 (.gn e g358 (.gn e g358 (.gn e g358 (.gn e g358 (.gn e g358 (.gs (s := 17736) e g357 (.pkF e g358 e) e e (.z 17752 (.pkF e g357 e) e e (.nil ⟨by kernel_rfl,?_⟩))))))))))))
      exact Run.condF e e (.skip (⟨_,_,(gh_pk [0,1,2,7] [] hB e e e e),(),h,e,e⟩))
   ·exact Run.ops hm (.p3 e e e (.nil (⟨m331,Nat.lt_succ_self m331,_,_,(gh_pk [0,1,2,7] [] hB e e e e),_,h,e,e⟩)))
  ·refine Run.exit ?_
   obtain rfl := someO h
   have h := hk331
   replace h := inrO h
   exact ⟨_,_,(gh_pk [] [] hB e e e e),(),h,e,e⟩
 ·refine Run.so hm (.p e (.nil (.ret ?_)))
  obtain rfl := someO h
  exact Ends.mkG (.inl e) e (gh_pk [0] [] hB e e e e) e e
def spec_ConfOk (N : Nat) (x1 : (List Int)) : Option (Bool) :=
 (spec_l01In N (x1.length : Int) 1 4).bind fun y109 =>
 (if y109 = true then
 (spec_l07Rise N x1 1 4).bind fun y111 =>
 some y111
 else
 some false)
theorem sem_spec_ConfOk (N : Nat) (x1 : (List Int)) (r : Bool) (h : spec_ConfOk N x1 = some r) : Says Tryz.prog 27 [RO 3 (x1.map encI)] 0 [] (VB r) [] := by
 unfold spec_ConfOk at h
 refine Says.of_norm e Tryz.call27 e fun B hB => ?_
 have hm : B.m ≤ 1000 := by omega
 refine Run.so hm (.p e (.nil (.so hm (.p e (.z 5112 (Ev.lnF e) e e ?_)))))
 obtain ⟨y109,hy109,h⟩ := bindO h
 refine Ops.z 5128 (Ev.call [] [] 0 (sem_spec_l01In _ _ _ _ _ hy109) e e (.d2 (.d1 .nil)) e (.inl e) e e) e e (.p e (.askO (x := .t 6) e h (fun g110 h => ?_) (fun g110 h => ?_)))
 ·refine Ops.gp e g110 e ?_
  obtain ⟨y111,hy111,h⟩ := bindO h
  refine Ops.gs (s := 5176) e g110 (Ev.call [] [] 0 (sem_spec_l07Rise _ _ _ _ _ hy111) e e (.d2 (.d1 .nil)) e (.inl e) e e) e e (.z 5192 (.pkT e g110 e) e e (.p e (.nil (.ret ?_))))
  obtain rfl := someO h
  exact Ends.mkG (.inl e) e (gh_pk [0] [] hB e e e e) e e
 ·refine Ops.gn e g110 (.gn e g110 (.z 5192 (.pkF e g110 e) e e (.p e (.nil (.ret ?_)))))
  obtain rfl := someO h
  exact Ends.mkG (.inl e) e (gh_pk [0] [] hB e e e e) e e
def spec_l20Conf_l1 (N : Nat) (x1 : ByteArray) : Nat → Int → (List Int) → Option ((List Int))
 | 0,_,_ => none
 | m + 1,x182,x183 =>
 (if (decide (x182 < (x1.size : Int))) = true then
 (sat? x1 x182).bind fun x204 =>
 (cat? x183 ([w64 ((w64 (x204)) - 48)] : List Int)).bind fun x205 =>
 spec_l20Conf_l1 N x1 m (w64 (x182 + 1)) x205
 else
 some x183)
def spec_l20Conf (N : Nat) (x1 : ByteArray) : Option ((List Int) × Bool) :=
 joinP (fun (v180 : (List Int)) =>
 (if (decide ((x1.size : Int) ≤ 4)) = true then
 (spec_ConfOk N v180).bind fun y209 =>
 some (v180,y209)
 else
 some (v180,false))) fun j180 =>
 (spec_l20Conf_l1 N x1 N 0 ([] : List Int)).bind (fun v194 => j180 v194)
theorem sem_spec_l20Conf (N : Nat) (x1 : ByteArray) (r : (List Int) × Bool) (h : spec_l20Conf N x1 = some r) : Says Tryz.prog 15 [VS x1] 0 [] (.tup [.sl 0 3 0 r.1.length,VB r.2]) [(0,.vec 3 (r.1.map encI))] := by
 unfold spec_l20Conf at h
 refine Says.of_norm e Tryz.call15 e fun B hB => ?_
 have hm : B.m ≤ 1000 := by omega
 refine Run.so hm (.p2 e e (.nil (.so hm (.z 5096 (Ev.bsW (ys := ([] : List Int)) (f := encI) e .nil e e e e e) e e (.p e (.nil (.seqO h (fun v180 => [(0,VS x1),(4,.sl 0 3 0 v180.length)]) (fun (v180 : (List Int)) => [(0,.vec 3 (v180.map encI))]) (fun h => ?_) (fun v180 h => ?_))))))))
 ·refine Run.so hm (.p e (.nil (.block ?_)))
  obtain ⟨res194,h,hk194⟩ := bindO h
  refine Run.loop (n := N) (fun m194 fr σ => ∃ (x182 : Int),∃ (x183 : (List Int)),spec_l20Conf_l1 N x1 m194 x182 x183 = some res194 ∧ fr = [(0,VS x1),(4,.sl 0 3 0 x183.length),(5,VI x182)] ∧ σ = [(0,.vec 3 (x183.map encI))]) (gh_pk [0,4,5] [5096] hB e e e e) ⟨_,_,h,e,e⟩ ?_
  rintro m194 fr σ ⟨x182,x183,h,rfl,rfl⟩
  obtain _ | m194 := m194
  ·rw [spec_l20Conf_l1] at h; cases h
  rw [spec_l20Conf_l1] at h
  refine Run.seq (.so hm (.p3 e e e (.p e (.nil (.condO e h (fun g197 h => ?_) (fun g197 h => ?_))))))
  ·refine Run.skip (.seq (.block (.ops hm (.p3 e e e ?_))))
   obtain ⟨x204,hx204,h⟩ := bindO h
   refine Ops.z 21528 (Ev.ixS e e hx204) e e (.p2 e e (.z 21576 (Ev.bsW (ys := ([w64 ((w64 (x204)) - 48)] : List Int)) (f := encI) e (.d1 .nil) e e e e e) e e ?_))
   obtain ⟨x205,hx205,h⟩ := bindO h
   exact Ops.z 21592 (Ev.apW (f := encI) (ontoW e e e) (addsW e e e (fun _ => e)) e bt3 e hx205) e e (.p e (.nil (.ops hm (.p3 e e e (.nil (⟨m194,Nat.lt_succ_self m194,_,_,(gh_pk [0,4,5] [21592] hB e e e e),_,_,h,e,e⟩))))))
  ·refine Run.exit ?_
   obtain rfl := someO h
   have h := hk194
   exact ⟨_,_,(gh_pk [0,4] [0] hB e e e e),_,h,e,e⟩
 ·refine Run.so hm (.p3 e e e (.p2 e e (.askO (x := .t 25) e h (fun g208 h => ?_) (fun g208 h => ?_))))
  ·refine Ops.gp e g208 e ?_
   obtain ⟨y209,hy209,h⟩ := bindO h
   refine Ops.gs (s := 25672) e g208 (Ev.call [] [0] 0 (sem_spec_ConfOk _ _ _ hy209) e e (.cons (.borrow e (by decide) (lendW (fun _ => e) _ e)) .nil) e (.inr ⟨e,ownL_root trivial⟩) e e) e e ?_
   refine Ops.z 25688 (.pkT e g208 e) e e (.p2 e e (.nil (.ret ?_)))
   obtain rfl := someO h
   exact Ends.mkG (.inl e) e (gh_pk [0,1] [0] hB e e e e) e e
  ·refine Ops.gn e g208 (.gn e g208 (.z 25688 (.pkF e g208 e) e e (.p2 e e (.nil (.ret ?_)))))
   obtain rfl := someO h
   exact Ends.mkG (.inl e) e (gh_pk [0,1] [0] hB e e e e) e e
def spec_ManifestOk (N : Nat) (x1 : Manifest) : Option (Bool) :=
 (spec_l01In N (x1.Segs.length : Int) 1 8).bind fun y133 =>
 (if y133 = true then
 (spec_l01In N x1.Next 0 1000).bind fun y135 =>
 (if y135 = true then
 (spec_l07Rise N x1.Segs 0 (w64 (x1.Next - 1))).bind fun y137 =>
 (if y137 = true then
 (spec_l01In N x1.Base 0 100000).bind fun y139 =>
 (if y139 = true then
 (spec_l01In N x1.BaseTerm 0 100000).bind fun y141 =>
 (if y141 = true then
 (spec_ConfOk N x1.Conf).bind fun y143 =>
 some y143
 else
 some false)
 else
 some false)
 else
 some false)
 else
 some false)
 else
 some false)
theorem sem_spec_ManifestOk (N : Nat) (x1 : Manifest) (r : Bool) (h : spec_ManifestOk N x1 = some r) : Says Tryz.prog 117 [.agg [RO 3 (x1.Segs.map encI),VI x1.Next,VI x1.Base,VI x1.BaseTerm,RO 3 (x1.Conf.map encI)]] 0 [] (VB r) [] := by
 unfold spec_ManifestOk at h
 refine Says.of_norm e Tryz.call117 e fun B hB => ?_
 have hm : B.m ≤ 1000 := by omega
 refine Run.so hm (.z 1000 (.bx e e) e e (.p e (.nil (.so hm (.p2 e e (.z 5128 (Ev.lnF e) e e ?_))))))
 obtain ⟨y133,hy133,h⟩ := bindO h
 refine Ops.z 5144 (Ev.call [] [] 0 (sem_spec_l01In _ _ _ _ _ hy133) e e (.d2 (.d1 .nil)) e (.inl e) e e) e e (.p e (.askO (x := .t 7) e h (fun g134 h => ?_) (fun g134 h => ?_)))
 ·refine Ops.gp e g134 e (.gp e g134 e ?_)
  obtain ⟨y135,hy135,h⟩ := bindO h
  refine Ops.gs (s := 5208) e g134 (Ev.call [] [] 0 (sem_spec_l01In _ _ _ _ _ hy135) e e (.d2 (.d1 .nil)) e (.inl e) e e) e e (.z 5224 (.pkT e g134 e) e e (.p e (.askO (x := .t 12) e h (fun g136 h => ?_) (fun g136 h => ?_))))
  ·refine Ops.gp e g136 e (.gp e g136 e (.gp e g136 e (.gp e g136 e (.gp e g136 e ?_))))
   obtain ⟨y137,hy137,h⟩ := bindO h
   refine Ops.gs (s := 5336) e g136 (Ev.call [] [] 0 (sem_spec_l07Rise _ _ _ _ _ hy137) e e (.d2 (.d1 .nil)) e (.inl e) e e) e e (.z 5352 (.pkT e g136 e) e e (.p e (.askO (x := .t 20) e h (fun g138 h => ?_) (fun g138 h => ?_))))
   ·refine Ops.gp e g138 e (.gp e g138 e ?_)
    obtain ⟨y139,hy139,h⟩ := bindO h
    refine Ops.gs (s := 5416) e g138 (Ev.call [] [] 0 (sem_spec_l01In _ _ _ _ _ hy139) e e (.d2 (.d1 .nil)) e (.inl e) e e) e e (.z 5432 (.pkT e g138 e) e e (.p e (.askO (x := .t 25) e h (fun g140 h => ?_) (fun g140 h => ?_))))
    ·refine Ops.gp e g140 e (.gp e g140 e ?_)
     obtain ⟨y141,hy141,h⟩ := bindO h
     refine Ops.gs (s := 5496) e g140 (Ev.call [] [] 0 (sem_spec_l01In _ _ _ _ _ hy141) e e (.d2 (.d1 .nil)) e (.inl e) e e) e e (.z 5512 (.pkT e g140 e) e e (.p e (.askO (x := .t 30) e h (fun g142 h => ?_) (fun g142 h => ?_))))
     ·refine Ops.gp e g142 e (.gp e g142 e ?_)
      obtain ⟨y143,hy143,h⟩ := bindO h
      refine Ops.gs (s := 5576) e g142 (Ev.call [] [] 0 (sem_spec_ConfOk _ _ _ hy143) e e (.d1 .nil) e (.inl e) e e) e e (.z 5592 (.pkT e g142 e) e e (.p e (.nil (.ret ?_))))
      obtain rfl := someO h
      exact Ends.mkG (.inl e) e (gh_pk [0] [] hB e e e e) e e
     ·refine Ops.gn e g142 (.gn e g142 (.gn e g142 (.z 5592 (.pkF e g142 e) e e (.p e (.nil (.ret ?_))))))
      obtain rfl := someO h
      exact Ends.mkG (.inl e) e (gh_pk [0] [] hB e e e e) e e
    ·refine Ops.gn e g140 (.gn e g140 (.gn e g140 (.z 5512 (.pkF e g140 e) e e (.p e (.gn e e (.gn e e (.gn e e (.z 5592 (.pkF e e e) e e (.p e (.nil (.ret ?_)))))))))))
     obtain rfl := someO h
     exact Ends.mkG (.inl e) e (gh_pk [0] [] hB e e e e) e e
   ·refine Ops.gn e g138 (.gn e g138 (.gn e g138 (.z 5432 (.pkF e g138 e) e e (.p e (.gn e e (.gn e e (.gn e e (.z 5512 (.pkF e e e) e e (.p e (.gn e e (.gn e e (.gn e e (.z 5592 (.pkF e e e) e e (.p e (.nil (.ret ?_))))))))))))))))
    obtain rfl := someO h
    exact Ends.mkG (.inl e) e (gh_pk [0] [] hB e e e e) e e
  ·refine Ops.gn e g136 (.gn e g136 (.gn e g136 (.gn e g136 (.gn e g136 (.gn e g136 (.z 5352 (.pkF e g136 e) e e (.p e (.gn e e (.gn e e (.gn e e (.z 5432 (.pkF e e e) e e (.p e (.gn e e (.gn e e (.gn e e (.z 5512 (.pkF e e e) e e (.p e (.gn e e (.gn e e (.gn e e (.z 5592 (.pkF e e e) e e (.p e (.nil (.ret ?_))))))))))))))))))))))))
   obtain rfl := someO h
   exact Ends.mkG (.inl e) e (gh_pk [0] [] hB e e e e) e e
 ·refine Ops.gn e g134 (.gn e g134 (.gn e g134 (.z 5224 (.pkF e g134 e) e e (.p e (.gn e e (.gn e e (.gn e e (.gn e e (.gn e e (.gn e e (.z 5352 (.pkF e e e) e e (.p e (.gn e e (.gn e e (.gn e e (.z 5432 (.pkF e e e) e e (.p e (.gn e e (.gn e e (.gn e e (.z 5512 (.pkF e e e) e e (.p e (.gn e e (.gn e e (.gn e e (.z 5592 (.pkF e e e) e e (.p e (.nil (.ret ?_)))))))))))))))))))))))))))))
  obtain rfl := someO h
  exact Ends.mkG (.inl e) e (gh_pk [0] [] hB e e e e) e e
def spec_l01Var_l1 (N : Nat) : Nat → Int → (List Int) → Option (Int × (List Int))
 | 0,_,_ => none
 | m + 1,x188,x189 =>
 (if (decide (x188 > 127)) = true then
 (intD .rem .i64 x188 128).bind fun x212 =>
 (cat? x189 ([IntKind.wrap .u8 (w64 (x212 + 128))] : List Int)).bind fun x213 =>
 (intD .quo .i64 x188 128).bind fun x215 =>
 spec_l01Var_l1 N m x215 x213
 else
 some (x188,x189))
def spec_l01Var (N : Nat) (x1 : Int) : Option (ByteArray) :=
 joinP (fun (v187 : Int × (List Int)) =>
 (cat? v187.2 ([IntKind.wrap .u8 (v187.1)] : List Int)).bind fun x217 =>
 some (strOf x217)) fun j187 =>
 (spec_l01Var_l1 N N x1 ([] : List Int)).bind (fun v202 => j187 (v202.1,v202.2))
theorem sem_spec_l01Var (N : Nat) (x1 : Int) (r : ByteArray) (h : spec_l01Var N x1 = some r) : Says Tryz.prog 118 [VI x1] 0 [] (VS r) [] := by
 unfold spec_l01Var at h
 refine Says.of_norm e Tryz.call118 e fun B hB => ?_
 have hm : B.m ≤ 1000 := by omega
 refine Run.so hm (.p e (.nil (.so hm (.z 5096 (Ev.bsW (ys := ([] : List Int)) (f := encU) e .nil e e e e e) e e (.p e (.nil (.seqO h (fun v187 => [(0,VI v187.1),(3,.sl 0 5 0 v187.2.length)]) (fun (v187 : Int × (List Int)) => [(0,.vec 5 (v187.2.map encU))]) (fun h => ?_) (fun v187 h => ?_))))))))
 ·refine Run.block ?_
  obtain ⟨res202,h,hk202⟩ := bindO h
  refine Run.loop (n := N) (fun m202 fr σ => ∃ (x188 : Int),∃ (x189 : (List Int)),spec_l01Var_l1 N m202 x188 x189 = some res202 ∧ fr = [(0,VI x188),(3,.sl 0 5 0 x189.length)] ∧ σ = [(0,.vec 5 (x189.map encU))]) (gh_pk [0,3] [5096] hB e e e e) ⟨_,_,h,e,e⟩ ?_
  rintro m202 fr σ ⟨x188,x189,h,rfl,rfl⟩
  obtain _ | m202 := m202
  ·rw [spec_l01Var_l1] at h; cases h
  rw [spec_l01Var_l1] at h
  refine Run.seq (.so hm (.p2 e e (.nil (.condO e h (fun g205 h => ?_) (fun g205 h => ?_)))))
  ·refine Run.skip (.block (.so hm (.p2 e e ?_)))
   obtain ⟨x212,hx212,h⟩ := bindO h
   refine Ops.z 13320 (.bin e e hx212) e e (.p2 e e (.z 13368 (Ev.bsW (ys := ([IntKind.wrap .u8 (w64 (x212 + 128))] : List Int)) (f := encU) e (.d1 .nil) e e e e e) e e ?_))
   obtain ⟨x213,hx213,h⟩ := bindO h
   refine Ops.z 13384 (Ev.apW (f := encU) (ontoW e e e) (addsW e e e (fun _ => e)) e bt5 e hx213) e e (.p e (.nil (.ops hm (.p e ?_))))
   obtain ⟨x215,hx215,h⟩ := bindO h
   exact Ops.z 17400 (.bin e e hx215) e e (.p e (.nil (⟨m202,Nat.lt_succ_self m202,_,_,(gh_pk [0,3] [13384] hB e e e e),_,_,h,e,e⟩)))
  ·refine Run.exit ?_
   obtain rfl := someO h
   have h := hk202
   exact ⟨_,_,(gh_pk [0,3] [0] hB e e e e),_,h,e,e⟩
 ·refine Run.so hm (.p3 e e e (.z 21528 (Ev.bsW (ys := ([IntKind.wrap .u8 (v187.1)] : List Int)) (f := encU) e (.d1 .nil) e e e e e) e e ?_))
  obtain ⟨x217,hx217,h⟩ := bindO h
  refine Ops.z 21544 (Ev.apW (f := encU) (ontoW e e e) (addsW e e e (fun _ => e)) e bt5 e hx217) e e (.z 21560 (.sbC (addsW (f := encU) e e e (fun _ => e))) e e (.p e (.nil (.ret ?_))))
  obtain rfl := someO h
  exact Ends.mkG (.inl e) e (gh_pk [0] [] hB e e e e) e e
def spec_SumMore_l2 (N : Nat) : Nat → Int → Int → Option (Int)
 | 0,_,_ => none
 | m + 1,x1114,x1117 =>
 (if (decide (x1117 < 8)) = true then
 joinP (fun (v1158 : Int) =>
 spec_SumMore_l2 N m v1158 (w64 (x1117 + 1))) fun j1158 =>
 (intD .rem .u32 x1114 2).bind fun x1162 =>
 (intD .quo .u32 x1114 2).bind fun x1166 =>
 (if (x1162 == 1) = true then
 (intD .xor .u32 x1166 3558460437).bind fun x1169 =>
 j1158 x1169
 else
 j1158 x1166)
 else
 some x1114)
def spec_SumMore_l1 (N : Nat) (x2 : ByteArray) : Nat → Int → Int → Option (Int)
 | 0,_,_ => none
 | m + 1,x903,x905 =>
 (if (decide (x905 < (x2.size : Int))) = true then
 joinP (fun (v1105 : Int) =>
 spec_SumMore_l1 N x2 m v1105 (w64 (x905 + 1))) fun j1105 =>
 (sat? x2 x905).bind fun x1112 =>
 (intD .xor .u32 x903 (IntKind.wrap .u32 (x1112))).bind fun x1113 =>
 (spec_SumMore_l2 N N x1113 0).bind (fun v1143 => j1105 v1143)
 else
 some x903)
def spec_SumMore (N : Nat) (x1 : Int) (x2 : ByteArray) : Option (Int) :=
 joinP (fun (v902 : Int) =>
 some v902) fun j902 =>
 (spec_SumMore_l1 N x2 N x1 0).bind (fun v1037 => j902 v1037)
theorem sem_spec_SumMore (N : Nat) (x1 : Int) (x2 : ByteArray) (r : Int) (h : spec_SumMore N x1 x2 = some r) : Says Tryz.prog 177 [.c (.i .u32 x1),VS x2] 0 [] (.c (.i .u32 r)) [] := by
 unfold spec_SumMore at h
 refine Says.of_norm e Tryz.call177 e fun B hB => ?_
 have hm : B.m ≤ 1000 := by omega
 refine Run.so hm (.p e (.nil (.seqO h (fun v902 => [(0,.c (.i .u32 v902))]) (fun (v902 : Int) => []) (fun h => ?_) (fun v902 h => ?_))))
 ·refine Run.so hm (.p e (.nil (.block ?_)))
  obtain ⟨res1037,h,hk1037⟩ := bindO h
  refine Run.loop (n := N) (fun m1037 fr σ => ∃ (x903 : Int),∃ (x905 : Int),spec_SumMore_l1 N x2 m1037 x903 x905 = some res1037 ∧ fr = [(0,.c (.i .u32 x903)),(1,VS x2),(5,VI x905)] ∧ σ = []) (gh_pk [0,1,5] [] hB e e e e) ⟨_,_,h,e,e⟩ ?_
  rintro m1037 fr σ ⟨x903,x905,h,rfl,rfl⟩
  obtain _ | m1037 := m1037
  ·rw [spec_SumMore_l1] at h; cases h
  rw [spec_SumMore_l1] at h
  refine Run.seq (.so hm (.p3 e e e (.p e (.nil (.condO e h (fun g1040 h => ?_) (fun g1040 h => ?_))))))
  ·refine Run.skip (.seqO h (fun v1105 => [(0,.c (.i .u32 v1105)),(1,VS x2),(5,VI x905)]) (fun (v1105 : Int) => []) (fun h => ?_) (fun v1105 h => ?_))
   ·refine Run.block (.so hm (.p3 e e e ?_))
    obtain ⟨x1112,hx1112,h⟩ := bindO h
    refine Ops.z 17432 (Ev.ixS e e hx1112) e e (.p e ?_)
    obtain ⟨x1113,hx1113,h⟩ := bindO h
    refine Ops.z 17464 (.bin e e hx1113) e e (.p e (.nil (.so hm (.p e (.nil (.block ?_))))))
    obtain ⟨res1143,h,hk1143⟩ := bindO h
    refine Run.loop (n := N) (fun m1143 fr σ => ∃ (x1114 : Int),∃ (x1117 : Int),spec_SumMore_l2 N m1143 x1114 x1117 = some res1143 ∧ fr = [(0,.c (.i .u32 x1114)),(1,VS x2),(5,VI x905),(6,VI x1117)] ∧ σ = []) (gh_pk [0,1,5,6] [] hB e e e e) ⟨_,_,h,e,e⟩ ?_
    rintro m1143 fr σ ⟨x1114,x1117,h,rfl,rfl⟩
    obtain _ | m1143 := m1143
    ·rw [spec_SumMore_l2] at h; cases h
    rw [spec_SumMore_l2] at h
    refine Run.seq (.so hm (.p2 e e (.nil (.condO e h (fun g1146 h => ?_) (fun g1146 h => ?_)))))
    ·refine Run.skip (.seqO h (fun v1158 => [(0,.c (.i .u32 v1158)),(1,VS x2),(5,VI x905),(6,VI x1117)]) (fun (v1158 : Int) => []) (fun h => ?_) (fun v1158 h => ?_))
     ·refine Run.block (.so hm (.p e ?_))
      obtain ⟨x1162,hx1162,h⟩ := bindO h
      refine Ops.z 33784 (.bin e e hx1162) e e (.p2 e e (.nil (.so hm (.p e ?_))))
      obtain ⟨x1166,hx1166,h⟩ := bindO h
      refine Ops.z 37880 (.bin e e hx1166) e e (.p e (.nil (.so hm (.p e (.nil (.condO e h (fun g1167 h => ?_) (fun g1167 h => ?_)))))))
      ·refine Run.ops hm (.p e ?_)
       obtain ⟨x1169,hx1169,h⟩ := bindO h
       exact Ops.z 46072 (.bin e e hx1169) e e (.p e (.nil (⟨_,_,(gh_pk [0,1,5,6] [] hB e e e e),_,h,e,e⟩)))
      ·exact Run.skip (⟨_,_,(gh_pk [0,1,5,6] [] hB e e e e),_,h,e,e⟩)
     ·exact Run.ops hm (.p3 e e e (.nil (⟨m1143,Nat.lt_succ_self m1143,_,_,(gh_pk [0,1,5,6] [] hB e e e e),_,_,h,e,e⟩)))
    ·refine Run.exit ?_
     obtain rfl := someO h
     have h := hk1143
     exact ⟨_,_,(gh_pk [0,1,5] [] hB e e e e),_,h,e,e⟩
   ·exact Run.ops hm (.p3 e e e (.nil (⟨m1037,Nat.lt_succ_self m1037,_,_,(gh_pk [0,1,5] [] hB e e e e),_,_,h,e,e⟩)))
  ·refine Run.exit ?_
   obtain rfl := someO h
   have h := hk1037
   exact ⟨_,_,(gh_pk [0] [] hB e e e e),_,h,e,e⟩
 ·refine Run.so hm (.p2 e e (.nil (.ret ?_)))
  obtain rfl := someO h
  exact Ends.mkG (.inl e) e (gh_pk [0] [] hB e e e e) e e
def spec_SumOf (N : Nat) (x1 : ByteArray) : Option (Int) :=
 (spec_SumMore N 4294967295 x1).bind fun y103 =>
 some y103
theorem sem_spec_SumOf (N : Nat) (x1 : ByteArray) (r : Int) (h : spec_SumOf N x1 = some r) : Says Tryz.prog 129 [VS x1] 0 [] (.c (.i .u32 r)) [] := by
 unfold spec_SumOf at h
 refine Says.of_norm e Tryz.call129 e fun B hB => ?_
 have hm : B.m ≤ 1000 := by omega
 refine Run.so hm (.p e (.nil (.so hm (.p e ?_))))
 obtain ⟨y103,hy103,h⟩ := bindO h
 refine Ops.z 5112 (Ev.call [] [] 0 (sem_spec_SumMore _ _ _ _ hy103) e e (.d2 .nil) e (.inl e) e e) e e (.p e (.nil (.ret ?_)))
 obtain rfl := someO h
 exact Ends.mkG (.inl e) e (gh_pk [0] [] hB e e e e) e e
def spec_l02Four (N : Nat) (x1 : Int) : Option (ByteArray) :=
 (intSh .shr .u32 x1 24).bind fun x109 =>
 (intSh .shr .u32 x1 16).bind fun x110 =>
 (intSh .shr .u32 x1 8).bind fun x111 =>
 some (strOf ([IntKind.wrap .u8 (x109),IntKind.wrap .u8 (x110),IntKind.wrap .u8 (x111),IntKind.wrap .u8 (x1)] : List Int))
theorem sem_spec_l02Four (N : Nat) (x1 : Int) (r : ByteArray) (h : spec_l02Four N x1 = some r) : Says Tryz.prog 128 [.c (.i .u32 x1)] 0 [] (VS r) [] := by
 unfold spec_l02Four at h
 refine Says.of_norm e Tryz.call128 e fun B hB => ?_
 have hm : B.m ≤ 1000 := by omega
 refine Run.so hm (.p e (.nil (.so hm (.p e ?_))))
 obtain ⟨x109,hx109,h⟩ := bindO h
 refine Ops.z 5112 (.sh e e hx109) e e (.p2 e e ?_)
 obtain ⟨x110,hx110,h⟩ := bindO h
 refine Ops.z 5160 (.sh e e hx110) e e (.p2 e e ?_)
 obtain ⟨x111,hx111,h⟩ := bindO h
 refine Ops.z 5208 (.sh e e hx111) e e (.p3 e e e (.z 5272 (Ev.bsW (ys := ([IntKind.wrap .u8 (x109),IntKind.wrap .u8 (x110),IntKind.wrap .u8 (x111),IntKind.wrap .u8 (x1)] : List Int)) (f := encU) e (.d4 .nil) e e e e e) e e (.z 5288 (.sbC (addsW (f := encU) e e e (fun _ => e))) e e (.p e (.nil (.ret ?_))))))
 obtain rfl := someO h
 exact Ends.mkG (.inl e) e (gh_pk [0] [] hB e e e e) e e
def spec_Sealed (N : Nat) (x1 : ByteArray) : Option (ByteArray × Bool) :=
 (if (decide ((x1.size : Int) > 20000)) = true then
 some ((⟨#[]⟩ : ByteArray),false)
 else
 (spec_SumOf N x1).bind fun y113 =>
 (spec_l02Four N y113).bind fun y114 =>
 (scat? x1 y114).bind fun x115 =>
 some (x115,true))
theorem sem_spec_Sealed (N : Nat) (x1 : ByteArray) (r : ByteArray × Bool) (h : spec_Sealed N x1 = some r) : Says Tryz.prog 119 [VS x1] 0 [] (.tup [VS r.1,VB r.2]) [] := by
 unfold spec_Sealed at h
 refine Says.of_norm e Tryz.call119 e fun B hB => ?_
 have hm : B.m ≤ 1000 := by omega
 refine Run.so hm (.p2 e e (.nil (.seq (.so hm (.p3 e e e (.nil (.condO e h (fun g109 h => ?_) (fun g109 h => ?_))))))))
 ·refine Run.so hm (.p2 e e (.nil (.ret ?_)))
  obtain rfl := someO h
  exact Ends.mkG (.inl e) e (gh_pk [0,1] [] hB e e e e) e e
 ·refine Run.skip (.so hm (.p2 e e ?_))
  obtain ⟨y113,hy113,h⟩ := bindO h
  refine Ops.z 13320 (Ev.call [] [] 0 (sem_spec_SumOf _ _ _ hy113) e e (.d1 .nil) e (.inl e) e e) e e ?_
  obtain ⟨y114,hy114,h⟩ := bindO h
  refine Ops.z 13336 (Ev.call [] [] 0 (sem_spec_l02Four _ _ _ hy114) e e (.d1 .nil) e (.inl e) e e) e e ?_
  obtain ⟨x115,hx115,h⟩ := bindO h
  refine Ops.z 13352 (Ev.addS e e hx115) e e (.p2 e e (.nil (.ret ?_)))
  obtain rfl := someO h
  exact Ends.mkG (.inl e) e (gh_pk [0,1] [] hB e e e e) e e
def spec_ManifestText_l1 (N : Nat) (x1 : Manifest) : Nat → ByteArray → Int → Option (ByteArray)
 | 0,_,_ => none
 | m + 1,x342,x343 =>
 (if (decide (x343 < (x1.Segs.length : Int))) = true then
 (at? x1.Segs x343).bind fun x376 =>
 (spec_l01Var N x376).bind fun y377 =>
 (scat? x342 y377).bind fun x378 =>
 spec_ManifestText_l1 N x1 m x378 (w64 (x343 + 1))
 else
 some x342)
def spec_ManifestText_l2 (N : Nat) (x1 : Manifest) : Nat → ByteArray → Int → Option (ByteArray)
 | 0,_,_ => none
 | m + 1,x449,x450 =>
 (if (decide (x450 < (x1.Conf.length : Int))) = true then
 (at? x1.Conf x450).bind fun x483 =>
 (spec_l01Var N x483).bind fun y484 =>
 (scat? x449 y484).bind fun x485 =>
 spec_ManifestText_l2 N x1 m x485 (w64 (x450 + 1))
 else
 some x449)
def spec_ManifestText (N : Nat) (x1 : Manifest) : Option (ByteArray × Bool) :=
 (spec_ManifestOk N x1).bind fun y298 =>
 (if (!y298) = true then
 some ((⟨#[]⟩ : ByteArray),false)
 else
 (spec_l01Var N (x1.Segs.length : Int)).bind fun y303 =>
 joinP (fun (v341 : ByteArray) =>
 (spec_l01Var N x1.Next).bind fun y403 =>
 (scat? v341 y403).bind fun x404 =>
 (spec_l01Var N x1.Base).bind fun y405 =>
 (scat? x404 y405).bind fun x406 =>
 (spec_l01Var N x1.BaseTerm).bind fun y407 =>
 (scat? x406 y407).bind fun x408 =>
 (spec_l01Var N (x1.Conf.length : Int)).bind fun y409 =>
 (scat? x408 y409).bind fun x410 =>
 joinP (fun (v448 : ByteArray) =>
 (spec_Sealed N v448).bind fun y487 =>
 some (y487.1,y487.2)) fun j448 =>
 (spec_ManifestText_l2 N x1 N x410 0).bind (fun v470 => j448 v470)) fun j341 =>
 (spec_ManifestText_l1 N x1 N y303 0).bind (fun v363 => j341 v363))
theorem sem_spec_ManifestText (N : Nat) (x1 : Manifest) (r : ByteArray × Bool) (h : spec_ManifestText N x1 = some r) : Says Tryz.prog 74 [.agg [RO 3 (x1.Segs.map encI),VI x1.Next,VI x1.Base,VI x1.BaseTerm,RO 3 (x1.Conf.map encI)]] 0 [] (.tup [VS r.1,VB r.2]) [] := by
 unfold spec_ManifestText at h
 refine Says.of_norm e Tryz.call74 e fun B hB => ?_
 have hm : B.m ≤ 1000 := by omega
 refine Run.so hm (.z 1000 (.bx e e) e e (.p2 e e (.nil (.seq (.so hm (.p e ?_))))))
 obtain ⟨y298,hy298,h⟩ := bindO h
 refine Ops.z 5112 (Ev.call [] [] 0 (sem_spec_ManifestOk _ _ _ hy298) e e (.cons (.agg (.d4 (.d1 .nil))) .nil) e (.inl e) e e) e e (.p e (.nil (.condO e h (fun g299 h => ?_) (fun g299 h => ?_))))
 ·refine Run.so hm (.p2 e e (.nil (.ret ?_)))
  obtain rfl := someO h
  exact Ends.mkG (.inl e) e (gh_pk [0,1] [] hB e e e e) e e
 ·refine Run.skip (.so hm (.p2 e e (.z 13320 (Ev.lnF e) e e ?_)))
  obtain ⟨y303,hy303,h⟩ := bindO h
  refine Ops.z 13336 (Ev.call [] [] 0 (sem_spec_l01Var _ _ _ hy303) e e (.d1 .nil) e (.inl e) e e) e e (.p e (.nil (.seqO h (fun v341 => [(1,.ptr 0 0),(4,VS v341)]) (fun (v341 : ByteArray) => [(0,.box [RO 3 (x1.Segs.map encI),VI x1.Next,VI x1.Base,VI x1.BaseTerm,RO 3 (x1.Conf.map encI)])]) (fun h => ?_) (fun v341 h => ?_))))
  ·refine Run.so hm (.p e (.nil (.block ?_)))
   obtain ⟨res363,h,hk363⟩ := bindO h
   refine Run.loop (n := N) (fun m363 fr σ => ∃ (x342 : ByteArray),∃ (x343 : Int),spec_ManifestText_l1 N x1 m363 x342 x343 = some res363 ∧ fr = [(1,.ptr 0 0),(4,VS x342),(5,VI x343)] ∧ σ = [(0,.box [RO 3 (x1.Segs.map encI),VI x1.Next,VI x1.Base,VI x1.BaseTerm,RO 3 (x1.Conf.map encI)])]) (gh_pk [1,4,5] [1000] hB e e e e) ⟨_,_,h,e,e⟩ ?_
   rintro m363 fr σ ⟨x342,x343,h,rfl,rfl⟩
   obtain _ | m363 := m363
   ·rw [spec_ManifestText_l1] at h; cases h
   rw [spec_ManifestText_l1] at h
   refine Run.seq (.so hm (.p3 e e e (.z 21528 (Ev.lnF e) e e (.p e (.nil (.condO e h (fun g366 h => ?_) (fun g366 h => ?_)))))))
   ·refine Run.skip (.seq (.block (.ops hm (.p3 e e e (.p e ?_)))))
    obtain ⟨x376,hx376,h⟩ := bindO h
    refine Ops.z 29736 (Ev.iaF e e hx376) e e (.p e ?_)
    obtain ⟨y377,hy377,h⟩ := bindO h
    refine Ops.z 29768 (Ev.call [] [] 0 (sem_spec_l01Var _ _ _ hy377) e e (.d1 .nil) e (.inl e) e e) e e ?_
    obtain ⟨x378,hx378,h⟩ := bindO h
    exact Ops.z 29784 (Ev.addS e e hx378) e e (.p e (.nil (.ops hm (.p3 e e e (.nil (⟨m363,Nat.lt_succ_self m363,_,_,(gh_pk [1,4,5] [0] hB e e e e),_,_,h,e,e⟩))))))
   ·refine Run.exit ?_
    obtain rfl := someO h
    have h := hk363
    exact ⟨_,_,(gh_pk [1,4] [0] hB e e e e),_,h,e,e⟩
  ·refine Run.seq (.draw hm hmix (.p e (.p e (.p e ?_))))
   obtain ⟨y403,hy403,h⟩ := bindO h
   refine OpsD.z 33816 (Ev.call [] [] 0 (sem_spec_l01Var _ _ _ hy403) e e (.d1 .nil) e (.inl e) e e) e e ?_
   obtain ⟨x404,hx404,h⟩ := bindO h
   refine OpsD.z 33832 (Ev.addS e e hx404) e e (.p e (.p e ?_))
   obtain ⟨y405,hy405,h⟩ := bindO h
   refine OpsD.z 33880 (Ev.call [] [] 0 (sem_spec_l01Var _ _ _ hy405) e e (.d1 .nil) e (.inl e) e e) e e ?_
   obtain ⟨x406,hx406,h⟩ := bindO h
   refine OpsD.z 33896 (Ev.addS e e hx406) e e (.p e (.p e ?_))
   obtain ⟨y407,hy407,h⟩ := bindO h
   refine OpsD.z 33944 (Ev.call [] [] 0 (sem_spec_l01Var _ _ _ hy407) e e (.d1 .nil) e (.inl e) e e) e e ?_
   obtain ⟨x408,hx408,h⟩ := bindO h
   refine OpsD.z 33960 (Ev.addS e e hx408) e e (.p e (.p e (.z 34008 (Ev.lnF e) e e ?_)))
   obtain ⟨y409,hy409,h⟩ := bindO h
   refine OpsD.z 34024 (Ev.call [] [] 0 (sem_spec_l01Var _ _ _ hy409) e e (.d1 .nil) e (.inl e) e e) e e ?_
   obtain ⟨x410,hx410,h⟩ := bindO h
   refine OpsD.z 34040 (Ev.addS e e hx410) e e (.p e (.nil ⟨by kernel_rfl,?_⟩))
   refine Run.seqO h (fun v448 => [(4,VS v448)]) (fun (v448 : ByteArray) => []) (fun h => ?_) (fun v448 h => ?_)
   ·refine Run.so hm (.p e (.nil (.block ?_)))
    obtain ⟨res470,h,hk470⟩ := bindO h
    refine Run.loop (n := N) (fun m470 fr σ => ∃ (x449 : ByteArray),∃ (x450 : Int),spec_ManifestText_l2 N x1 m470 x449 x450 = some res470 ∧ fr = [(1,.ptr 0 0),(4,VS x449),(6,VI x450)] ∧ σ = [(0,.box [RO 3 (x1.Segs.map encI),VI x1.Next,VI x1.Base,VI x1.BaseTerm,RO 3 (x1.Conf.map encI)])]) (gh_pk [1,4,6] [0] hB e e e e) ⟨_,_,h,e,e⟩ ?_
    rintro m470 fr σ ⟨x449,x450,h,rfl,rfl⟩
    obtain _ | m470 := m470
    ·rw [spec_ManifestText_l2] at h; cases h
    rw [spec_ManifestText_l2] at h
    refine Run.seq (.so hm (.p3 e e e (.z 42008 (Ev.lnF e) e e (.p e (.nil (.condO e h (fun g473 h => ?_) (fun g473 h => ?_)))))))
    ·refine Run.skip (.seq (.block (.ops hm (.p3 e e e (.p e ?_)))))
     obtain ⟨x483,hx483,h⟩ := bindO h
     refine Ops.z 50216 (Ev.iaF e e hx483) e e (.p e ?_)
     obtain ⟨y484,hy484,h⟩ := bindO h
     refine Ops.z 50248 (Ev.call [] [] 0 (sem_spec_l01Var _ _ _ hy484) e e (.d1 .nil) e (.inl e) e e) e e ?_
     obtain ⟨x485,hx485,h⟩ := bindO h
     exact Ops.z 50264 (Ev.addS e e hx485) e e (.p e (.nil (.ops hm (.p3 e e e (.nil (⟨m470,Nat.lt_succ_self m470,_,_,(gh_pk [1,4,6] [0] hB e e e e),_,_,h,e,e⟩))))))
    ·refine Run.exit ?_
     obtain rfl := someO h
     have h := hk470
     exact ⟨_,_,(gh_pk [4] [] hB e e e e),_,h,e,e⟩
   ·refine Run.so hm (.p e ?_)
    obtain ⟨y487,hy487,h⟩ := bindO h
    refine Ops.z 54264 (Ev.call [] [] 0 (sem_spec_Sealed _ _ _ hy487) e e (.d1 .nil) e (.inl e) e e) e e (.p3 e e e (.p e (.nil (.ret ?_))))
    obtain rfl := someO h
    exact Ends.mkG (.inl e) e (gh_pk [0,1] [] hB e e e e) e e
def spec_SegName (N : Nat) (x1 : Int) : Option (ByteArray) :=
 (spec_l01In N x1 0 999).bind fun y114 =>
 (if (!y114) = true then
 some (⟨#[]⟩ : ByteArray)
 else
 (spec_Decimal N x1).bind fun y118 =>
 (scat? (⟨#[103]⟩ : ByteArray) y118).bind fun x119 =>
 some x119)
theorem sem_spec_SegName (N : Nat) (x1 : Int) (r : ByteArray) (h : spec_SegName N x1 = some r) : Says Tryz.prog 75 [VI x1] 0 [] (VS r) [] := by
 unfold spec_SegName at h
 refine Says.of_norm e Tryz.call75 e fun B hB => ?_
 have hm : B.m ≤ 1000 := by omega
 refine Run.so hm (.p e (.nil (.seq (.so hm (.p e ?_)))))
 obtain ⟨y114,hy114,h⟩ := bindO h
 refine Ops.z 5112 (Ev.call [] [] 0 (sem_spec_l01In _ _ _ _ _ hy114) e e (.d2 (.d1 .nil)) e (.inl e) e e) e e (.p e (.nil (.condO e h (fun g115 h => ?_) (fun g115 h => ?_))))
 ·refine Run.so hm (.p e (.nil (.ret ?_)))
  obtain rfl := someO h
  exact Ends.mkG (.inl e) e (gh_pk [0] [] hB e e e e) e e
 ·refine Run.skip (.so hm (.p e ?_))
  obtain ⟨y118,hy118,h⟩ := bindO h
  refine Ops.z 13304 (Ev.call [] [] 0 (sem_spec_Decimal _ _ _ hy118) e e (.d1 .nil) e (.inl e) e e) e e ?_
  obtain ⟨x119,hx119,h⟩ := bindO h
  refine Ops.z 13320 (Ev.addS e e hx119) e e (.p e (.nil (.ret ?_)))
  obtain rfl := someO h
  exact Ends.mkG (.inl e) e (gh_pk [0] [] hB e e e e) e e
def spec_FormatShelf (N : Nat) (x1 : (List Int)) : Option (Disk × Bool) :=
 (spec_ManifestText N (Manifest.mk ([0] : List Int) 1 0 0 x1)).bind fun y111 =>
 (if (!y111.2) = true then
 some ((Disk.mk ([])),false)
 else
 (spec_SegName N 0).bind fun y115 =>
 some ((Disk.mk ([(File.mk y115 (⟨#[]⟩ : ByteArray)),(File.mk (⟨#[109]⟩ : ByteArray) y111.1)] : List File)),true))
theorem sem_spec_FormatShelf (N : Nat) (x1 : (List Int)) (r : Disk × Bool) (h : spec_FormatShelf N x1 = some r) : Says Tryz.prog 48 [RO 3 (x1.map encI)] 0 [] (.tup [.agg [.sl 0 98 0 r.1.Files.length],VB r.2]) [(0,.vec 98 (r.1.Files.map encFile))] := by
 unfold spec_FormatShelf at h
 refine Says.of_norm e Tryz.call48 e fun B hB => ?_
 have hm : B.m ≤ 1000 := by omega
 refine Run.so hm (.z 1000 (.al e e) e e (.p e (.nil (.so hm (.z 5096 (Ev.bsW (ys := ([0] : List Int)) (f := encI) e (.d1 .nil) e e e e e) e e (.p e (.z 5128 (.bd e e) e e ?_)))))))
 obtain ⟨y111,hy111,h⟩ := bindO h
 refine Ops.z 5144 (Ev.call [] [5096] 0 (sem_spec_ManifestText _ _ _ hy111) e e (.cons (.agg (.cons (.borrow e (by decide) (lendW (fun _ => e) _ e)) (.d4 .nil))) .nil) e (.inr ⟨e,ownL_root trivial⟩) e e) e e ?_
 refine Ops.p e (.p3 e e e (.p e (.nil (.seq (.so hm (.p2 e e (.nil (.condO e h (fun g113 h => ?_) (fun g113 h => ?_)))))))))
 ·refine Run.so hm (.z 13288 (.bd e e) e e (.y 13304 (.sto e e e e e e) e e (.p e (.nil (.ret ?_)))))
  obtain rfl := someO h
  exact Ends.mkG (.inl e) e (Gh.trans (Gh.trans (gh_prn [0,1] [] hB e) (gh_nil [0] [] hB e e e)) (gh_pk [0,1] [10000000] hB e e e e)) e e
 ·refine Run.skip (.so hm ?_)
  obtain ⟨y115,hy115,h⟩ := bindO h
  refine Ops.z 17384 (Ev.call [] [] 0 (sem_spec_SegName _ _ _ hy115) e e (.d1 .nil) e (.inl e) e e) e e (.z 17400 (.bd e e) e e (.p e (.z 17432 (.bd e e) e e (.z 17448 (Ev.bsW (ys := ([(File.mk y115 (⟨#[]⟩ : ByteArray)),(File.mk (⟨#[109]⟩ : ByteArray) y111.1)] : List File)) (f := encFile) e (.d4 .nil) e e e e e) e e (.z 17464 (.bd e e) e e (.y 17480 (.sto e e e e e e) e e (.p e (.nil (.ret ?_)))))))))
  obtain rfl := someO h
  exact Ends.mkG (.inl e) e (gh_pk [0,1] [17448] hB e e e e) e e
def spec_LogOk_l1 (N : Nat) (x1 : Log) : Nat → Option (Unit)
 | 0 => none
 | m + 1 =>
 (if (decide (0 < (x1.Entries.length : Int))) = true then
 none
 else
 some ())
def spec_LogOk (N : Nat) (x1 : Log) : Option (Bool) :=
 (spec_l01In N x1.Start 0 100000).bind fun y159 =>
 (if (!y159) = true then
 some false
 else
 (spec_l01In N x1.StartTerm 0 100000).bind fun y161 =>
 (if (!y161) = true then
 some false
 else
 (if (decide ((x1.Entries.length : Int) > 120)) = true then
 some false
 else
 (if (decide ((w64 (x1.Start + (x1.Entries.length : Int))) > 100000)) = true then
 some false
 else
 joinP (fun (v175 : Unit) =>
 some true) fun j175 =>
 (spec_LogOk_l1 N x1 N).bind (fun v182 => j175 ())))))
theorem sem_spec_LogOk (N : Nat) (x1 : Log) (r : Bool) (h : spec_LogOk N x1 = some r) : Says Tryz.prog 76 [.agg [VI x1.Start,VI x1.StartTerm,RO 141 (x1.Entries.map encEntry)]] 0 [] (VB r) [] := by
 unfold spec_LogOk at h
 refine Says.of_norm e Tryz.call76 e fun B hB => ?_
 have hm : B.m ≤ 1000 := by omega
 refine Run.so hm (.z 1000 (.bx e e) e e (.p e (.nil (.seq (.so hm (.p2 e e ?_))))))
 obtain ⟨y159,hy159,h⟩ := bindO h
 refine Ops.z 5128 (Ev.call [] [] 0 (sem_spec_l01In _ _ _ _ _ hy159) e e (.d2 (.d1 .nil)) e (.inl e) e e) e e (.p2 e e (.askO (x := .t 9) e h (fun g160 h => ?_) (fun g160 h => ?_)))
 ·refine Ops.gn e g160 (.gn e g160 (.gn e g160 (.gn e g160 (.z 5240 (.pkT e g160 e) e e (.p e (.gn e e (.gn e e (.gn e e (.gn e e (.z 5336 (.pkT e e e) e e (.p e (.gn e e (.gn e e (.gn e e (.gn e e (.gn e e (.gn e e (.gn e e (.z 5480 (.pkT e e e) e e (.nil (.condT e e (.so hm (.p e (.nil (.ret ?_)))))))))))))))))))))))))
  obtain rfl := someO h
  exact Ends.mkG (.inl e) e (gh_pk [0] [] hB e e e e) e e
 ·refine Ops.gp e g160 e (.gp e g160 e ?_)
  obtain ⟨y161,hy161,h⟩ := bindO h
  refine Ops.gs (s := 5208) e g160 (Ev.call [] [] 0 (sem_spec_l01In _ _ _ _ _ hy161) e e (.d2 (.d1 .nil)) e (.inl e) e e) e e (.gp e g160 e (.z 5240 (.pkF e g160 e) e e (.p e (.askO (x := .t 15) e h (fun g162 h => ?_) (fun g162 h => ?_)))))
  ·refine Ops.gn e g162 (.gn e g162 (.gn e g162 (.gn e g162 (.z 5336 (.pkT e g162 e) e e (.p e (.gn e e (.gn e e (.gn e e (.gn e e (.gn e e (.gn e e (.gn e e (.z 5480 (.pkT e e e) e e (.nil (.condT e e (.so hm (.p e (.nil (.ret ?_)))))))))))))))))))
   obtain rfl := someO h
   exact Ends.mkG (.inl e) e (gh_pk [0] [] hB e e e e) e e
  ·refine Ops.gp e g162 e (.gp e g162 e (.gs (s := 5304) e g162 (Ev.lnF e) e e (.gp e g162 e (.z 5336 (.pkF e g162 e) e e (.p e (.askO (x := .t 21) e h (fun g163 h => ?_) (fun g163 h => ?_)))))))
   ·refine Ops.gn e g163 (.gn e g163 (.gn e g163 (.gn e g163 (.gn e g163 (.gn e g163 (.gn e g163 (.z 5480 (.pkT e g163 e) e e (.nil (.condT e e (.so hm (.p e (.nil (.ret ?_)))))))))))))
    obtain rfl := someO h
    exact Ends.mkG (.inl e) e (gh_pk [0] [] hB e e e e) e e
   ·refine Ops.gp e g163 e (.gp e g163 e (.gp e g163 e (.gp e g163 e (.gs (s := 5432) e g163 (Ev.lnF e) e e (.gp e g163 e (.gp e g163 e (.z 5480 (.pkF e g163 e) e e (.nil (.condO e h (fun g164 h => ?_) (fun g164 h => ?_))))))))))
    ·refine Run.so hm (.p e (.nil (.ret ?_)))
     obtain rfl := someO h
     exact Ends.mkG (.inl e) e (gh_pk [0] [] hB e e e e) e e
    ·refine Run.skip (.so hm (.p3 e e e (.nil (.seqO h (fun v175 => []) (fun (v175 : Unit) => []) (fun h => ?_) (fun v175 h => ?_)))))
     ·refine Run.so hm (.p e (.nil (.block ?_)))
      obtain ⟨res182,h,hk182⟩ := bindO h
      refine Run.loop (n := N) (fun m182 fr σ => spec_LogOk_l1 N x1 m182 = some res182 ∧ fr = [(1,.ptr 0 0),(4,VI 0)] ∧ σ = [(0,.box [VI x1.Start,VI x1.StartTerm,RO 141 (x1.Entries.map encEntry)])]) (gh_pk [1,4] [1000] hB e e e e) ⟨h,e,e⟩ ?_
      rintro m182 fr σ ⟨h,rfl,rfl⟩
      obtain _ | m182 := m182
      ·rw [spec_LogOk_l1] at h; cases h
      rw [spec_LogOk_l1] at h
      refine Run.seq (.so hm (.p3 e e e (.z 21528 (Ev.lnF e) e e (.p e (.nil (.condO e h (fun g185 h => ?_) (fun g185 h => ?_)))))))
      ·exact noO h
      ·refine Run.exit ?_
       obtain rfl := someO h
       have h := hk182
       exact ⟨_,_,(gh_pk [] [] hB e e e e),(),h,e,e⟩
     ·refine Run.so hm (.p e (.nil (.ret ?_)))
      obtain rfl := someO h
      exact Ends.mkG (.inl e) e (gh_pk [0] [] hB e e e e) e e
def spec_Frame (N : Nat) (x1 : ByteArray) : Option (ByteArray × Bool) :=
 (spec_l01In N (x1.size : Int) 1 9000).bind fun y120 =>
 (if (!y120) = true then
 some ((⟨#[]⟩ : ByteArray),false)
 else
 (spec_l01Var N (x1.size : Int)).bind fun y127 =>
 (spec_SumOf N x1).bind fun y128 =>
 (spec_l02Four N y128).bind fun y129 =>
 (scat? y127 y129).bind fun x130 =>
 (scat? x130 x1).bind fun x131 =>
 some (x131,true))
theorem sem_spec_Frame (N : Nat) (x1 : ByteArray) (r : ByteArray × Bool) (h : spec_Frame N x1 = some r) : Says Tryz.prog 90 [VS x1] 0 [] (.tup [VS r.1,VB r.2]) [] := by
 unfold spec_Frame at h
 refine Says.of_norm e Tryz.call90 e fun B hB => ?_
 have hm : B.m ≤ 1000 := by omega
 refine Run.so hm (.p2 e e (.nil (.seq (.so hm (.p2 e e ?_)))))
 obtain ⟨y120,hy120,h⟩ := bindO h
 refine Ops.z 5128 (Ev.call [] [] 0 (sem_spec_l01In _ _ _ _ _ hy120) e e (.d2 (.d1 .nil)) e (.inl e) e e) e e (.p e (.nil (.condO e h (fun g121 h => ?_) (fun g121 h => ?_))))
 ·refine Run.so hm (.p2 e e (.nil (.ret ?_)))
  obtain rfl := someO h
  exact Ends.mkG (.inl e) e (gh_pk [0,1] [] hB e e e e) e e
 ·refine Run.skip (.so hm (.p2 e e ?_))
  obtain ⟨y127,hy127,h⟩ := bindO h
  refine Ops.z 13320 (Ev.call [] [] 0 (sem_spec_l01Var _ _ _ hy127) e e (.d1 .nil) e (.inl e) e e) e e (.p e ?_)
  obtain ⟨y128,hy128,h⟩ := bindO h
  refine Ops.z 13352 (Ev.call [] [] 0 (sem_spec_SumOf _ _ _ hy128) e e (.d1 .nil) e (.inl e) e e) e e ?_
  obtain ⟨y129,hy129,h⟩ := bindO h
  refine Ops.z 13368 (Ev.call [] [] 0 (sem_spec_l02Four _ _ _ hy129) e e (.d1 .nil) e (.inl e) e e) e e ?_
  obtain ⟨x130,hx130,h⟩ := bindO h
  refine Ops.z 13384 (Ev.addS e e hx130) e e (.p e ?_)
  obtain ⟨x131,hx131,h⟩ := bindO h
  refine Ops.z 13416 (Ev.addS e e hx131) e e (.p2 e e (.nil (.ret ?_)))
  obtain rfl := someO h
  exact Ends.mkG (.inl e) e (gh_pk [0,1] [] hB e e e e) e e
def spec_l12Head (N : Nat) (x1 : Log) : Option (ByteArray) :=
 (spec_l01Var N x1.Start).bind fun y135 =>
 (scat? (⟨#[83]⟩ : ByteArray) y135).bind fun x136 =>
 (spec_l01Var N x1.StartTerm).bind fun y137 =>
 (scat? x136 y137).bind fun x138 =>
 (spec_Frame N x138).bind fun y139 =>
 some y139.1
theorem sem_spec_l12Head (N : Nat) (x1 : Log) (r : ByteArray) (h : spec_l12Head N x1 = some r) : Says Tryz.prog 77 [.agg [VI x1.Start,VI x1.StartTerm,RO 141 (x1.Entries.map encEntry)]] 0 [] (VS r) [] := by
 unfold spec_l12Head at h
 refine Says.of_norm e Tryz.call77 e fun B hB => ?_
 have hm : B.m ≤ 1000 := by omega
 refine Run.so hm (.z 1000 (.bx e e) e e (.p e (.nil (.seq (.draw hm hmix (.p e (.p e ?_)))))))
 obtain ⟨y135,hy135,h⟩ := bindO h
 refine OpsD.z 5128 (Ev.call [] [] 0 (sem_spec_l01Var _ _ _ hy135) e e (.d1 .nil) e (.inl e) e e) e e ?_
 obtain ⟨x136,hx136,h⟩ := bindO h
 refine OpsD.z 5144 (Ev.addS e e hx136) e e (.p e (.p e ?_))
 obtain ⟨y137,hy137,h⟩ := bindO h
 refine OpsD.z 5192 (Ev.call [] [] 0 (sem_spec_l01Var _ _ _ hy137) e e (.d1 .nil) e (.inl e) e e) e e ?_
 obtain ⟨x138,hx138,h⟩ := bindO h
 refine OpsD.z 5208 (Ev.addS e e hx138) e e ?_
 obtain ⟨y139,hy139,h⟩ := bindO h
 refine OpsD.z 5224 (Ev.call [] [] 0 (sem_spec_Frame _ _ _ hy139) e e (.d1 .nil) e (.inl e) e e) e e (.p e (.p e (.p e (.p e (.p e (.nil ⟨by kernel_rfl,?_⟩))))))
 refine Run.so hm (.p2 e e (.nil (.ret ?_)))
 obtain rfl := someO h
 exact Ends.mkG (.inl e) e (gh_pk [0] [] hB e e e e) e e
def spec_l12Frames_l1 (N : Nat) (x1 : Log) (x2 : Int) : Nat → Option (Unit)
 | 0 => none
 | m + 1 =>
 (if (decide (x2 < (x1.Entries.length : Int))) = true then
 none
 else
 some ())
def spec_l12Frames (N : Nat) (x1 : Log) (x2 : Int) : Option (ByteArray) :=
 joinP (fun (v134 : Unit) =>
 some (strOf ([] : List Int))) fun j134 =>
 (spec_l12Frames_l1 N x1 x2 N).bind (fun v142 => j134 ())
theorem sem_spec_l12Frames (N : Nat) (x1 : Log) (x2 : Int) (r : ByteArray) (h : spec_l12Frames N x1 x2 = some r) : Says Tryz.prog 78 [.agg [VI x1.Start,VI x1.StartTerm,RO 141 (x1.Entries.map encEntry)],VI x2] 0 [] (VS r) [] := by
 unfold spec_l12Frames at h
 refine Says.of_norm e Tryz.call78 e fun B hB => ?_
 have hm : B.m ≤ 1000 := by omega
 refine Run.so hm (.z 1000 (.bx e e) e e (.p e (.nil (.so hm (.z 5096 (Ev.bsW (ys := ([] : List Int)) (f := encU) e .nil e e e e e) e e (.p e (.nil (.seqO h (fun v134 => [(5,.sl 0 5 0 (([] : List Int).length))]) (fun (v134 : Unit) => [(0,.vec 5 (([] : List Int).map encU))]) (fun h => ?_) (fun v134 h => ?_)))))))))
 ·refine Run.so hm (.p2 e e (.nil (.block ?_)))
  obtain ⟨res142,h,hk142⟩ := bindO h
  refine Run.loop (n := N) (fun m142 fr σ => spec_l12Frames_l1 N x1 x2 m142 = some res142 ∧ fr = [(2,.ptr 0 0),(5,.sl 1 5 0 (([] : List Int).length)),(6,VI x2)] ∧ σ = [(0,.box [VI x1.Start,VI x1.StartTerm,RO 141 (x1.Entries.map encEntry)]),(1,.vec 5 (([] : List Int).map encU))]) (gh_pk [2,5,6] [1000,5096] hB e e e e) ⟨h,e,e⟩ ?_
  rintro m142 fr σ ⟨h,rfl,rfl⟩
  obtain _ | m142 := m142
  ·rw [spec_l12Frames_l1] at h; cases h
  rw [spec_l12Frames_l1] at h
  refine Run.seq (.so hm (.p3 e e e (.z 13336 (Ev.lnF e) e e (.p e (.nil (.condO e h (fun g145 h => ?_) (fun g145 h => ?_)))))))
  ·exact noO h
  ·refine Run.exit ?_
   obtain rfl := someO h
   have h := hk142
   exact ⟨_,_,(gh_pk [5] [1] hB e e e e),(),h,e,e⟩
 ·refine Run.so hm (.p e (.z 33784 (.sbC (addsW (f := encU) e e e (fun _ => e))) e e (.p e (.nil (.ret ?_)))))
  obtain rfl := someO h
  exact Ends.mkG (.inl e) e (gh_pk [0] [] hB e e e e) e e
def spec_LogFile (N : Nat) (x1 : Log) : Option (ByteArray × Bool) :=
 (spec_LogOk N x1).bind fun y124 =>
 (if (!y124) = true then
 some ((⟨#[]⟩ : ByteArray),false)
 else
 (spec_l12Head N x1).bind fun y135 =>
 (spec_l12Frames N x1 0).bind fun y136 =>
 (scat? y135 y136).bind fun x137 =>
 (if (decide ((x137.size : Int) > 20000)) = true then
 some ((⟨#[]⟩ : ByteArray),false)
 else
 some (x137,true)))
theorem sem_spec_LogFile (N : Nat) (x1 : Log) (r : ByteArray × Bool) (h : spec_LogFile N x1 = some r) : Says Tryz.prog 49 [.agg [VI x1.Start,VI x1.StartTerm,RO 141 (x1.Entries.map encEntry)]] 0 [] (.tup [VS r.1,VB r.2]) [] := by
 unfold spec_LogFile at h
 refine Says.of_norm e Tryz.call49 e fun B hB => ?_
 have hm : B.m ≤ 1000 := by omega
 refine Run.so hm (.z 1000 (.bx e e) e e (.p2 e e (.nil (.seq (.so hm (.p e ?_))))))
 obtain ⟨y124,hy124,h⟩ := bindO h
 refine Ops.z 5112 (Ev.call [] [] 0 (sem_spec_LogOk _ _ _ hy124) e e (.cons (.agg (.d2 (.d1 .nil))) .nil) e (.inl e) e e) e e (.p e (.nil (.condO e h (fun g125 h => ?_) (fun g125 h => ?_))))
 ·refine Run.so hm (.p2 e e (.nil (.ret ?_)))
  obtain rfl := someO h
  exact Ends.mkG (.inl e) e (gh_pk [0,1] [] hB e e e e) e e
 ·refine Run.skip (.seq (.draw hm hmix (.p e ?_)))
  obtain ⟨y135,hy135,h⟩ := bindO h
  refine OpsD.z 13304 (Ev.call [] [] 0 (sem_spec_l12Head _ _ _ hy135) e e (.cons (.agg (.d2 (.d1 .nil))) .nil) e (.inl e) e e) e e (.p e ?_)
  obtain ⟨y136,hy136,h⟩ := bindO h
  refine OpsD.z 13336 (Ev.call [] [] 0 (sem_spec_l12Frames _ _ _ _ hy136) e e (.cons (.agg (.d2 (.d1 .nil))) (.d1 .nil)) e (.inl e) e e) e e ?_
  obtain ⟨x137,hx137,h⟩ := bindO h
  refine OpsD.z 13352 (Ev.addS e e hx137) e e (.p e (.nil ⟨by kernel_rfl,?_⟩))
  refine Run.seq (.so hm (.p3 e e e (.nil (.condO e h (fun g139 h => ?_) (fun g139 h => ?_)))))
  ·refine Run.so hm (.p2 e e (.nil (.ret ?_)))
   obtain rfl := someO h
   exact Ends.mkG (.inl e) e (gh_pk [0,1] [] hB e e e e) e e
  ·refine Run.skip (.so hm (.p3 e e e (.nil (.ret ?_))))
   obtain rfl := someO h
   exact Ends.mkG (.inl e) e (gh_pk [0,1] [] hB e e e e) e e
def spec_l03Put_l1 (N : Nat) (x1 : Disk) (x2 : File) : Nat → Int → (List File) → Option ((List File))
 | 0,_,_ => none
 | m + 1,x317,x322 =>
 (if (decide (x317 < (x1.Files.length : Int))) = true then
 joinP (fun (v351 : (List File)) =>
 spec_l03Put_l1 N x1 x2 m (w64 (x317 + 1)) v351) fun j351 =>
 (at? x1.Files x317).bind fun x353 =>
 (if (Op.bytesLess x353.Name.toList x2.Name.toList) = true then
 (at? x1.Files x317).bind fun x357 =>
 (cat? x322 ([x357] : List File)).bind fun x358 =>
 j351 x358
 else
 j351 x322)
 else
 some x322)
def spec_l03Put_l2 (N : Nat) (x1 : Disk) (x2 : File) : Nat → Int → (List File) → Option ((List File))
 | 0,_,_ => none
 | m + 1,x406,x411 =>
 (if (decide (x406 < (x1.Files.length : Int))) = true then
 joinP (fun (v440 : (List File)) =>
 spec_l03Put_l2 N x1 x2 m (w64 (x406 + 1)) v440) fun j440 =>
 (at? x1.Files x406).bind fun x442 =>
 (if (!(Op.bytesLess x442.Name.toList x2.Name.toList || decide (x442.Name = x2.Name))) = true then
 (at? x1.Files x406).bind fun x446 =>
 (cat? x411 ([x446] : List File)).bind fun x447 =>
 j440 x447
 else
 j440 x411)
 else
 some x411)
def spec_l03Put (N : Nat) (x1 : Disk) (x2 : File) : Option (Disk) :=
 joinP (fun (v316 : (List File)) =>
 (cat? v316 ([x2] : List File)).bind fun x362 =>
 joinP (fun (v405 : (List File)) =>
 some (Disk.mk v405)) fun j405 =>
 (spec_l03Put_l2 N x1 x2 N 0 x362).bind (fun v429 => j405 v429)) fun j316 =>
 (spec_l03Put_l1 N x1 x2 N 0 ([] : (List File))).bind (fun v340 => j316 v340)
theorem sem_spec_l03Put (N : Nat) (x1 : Disk) (x2 : File) (r : Disk) (h : spec_l03Put N x1 x2 = some r) : Says Tryz.prog 50 [.agg [RO 98 (x1.Files.map encFile)],.agg [VS x2.Name,VS x2.Text]] 0 [] (.agg [.sl 0 98 0 r.Files.length]) [(0,.vec 98 (r.Files.map encFile))] := by
 unfold spec_l03Put at h
 refine Says.of_norm e Tryz.call50 e fun B hB => ?_
 have hm : B.m ≤ 1000 := by omega
 refine Run.so hm (.z 1000 (.bx e e) e e (.z 1016 (.bx e e) e e (.z 1032 (.al e e) e e (.nil (.so hm (.z 5096 (.bd e e) e e (.z 5112 (.al e e) e e (.y 5128 (.sto e e e e e e) e e (.nil (.seqO h (fun v316 => [(2,.ptr 0 0),(3,.ptr 1 0),(4,.ptr 2 0),(5,.ptr 3 0)]) (fun (v316 : (List File)) => [(0,.box [RO 98 (x1.Files.map encFile)]),(1,.box [VS x2.Name,VS x2.Text]),(2,.box [.sl 4 98 0 (([] : (List File)).length)]),(3,.box [.sl 5 98 0 v316.length]),(4,.vec 98 (([] : (List File)).map encFile)),(5,.vec 98 (v316.map encFile))]) (fun h => ?_) (fun v316 h => ?_)))))))))))
 ·refine Run.so hm (.p e (.nil (.block ?_)))
  obtain ⟨res340,h,hk340⟩ := bindO h
  refine Run.loop (n := N) (fun m340 fr σ => ∃ (x317 : Int),∃ (x322 : (List File)),spec_l03Put_l1 N x1 x2 m340 x317 x322 = some res340 ∧ fr = [(2,.ptr 0 0),(3,.ptr 1 0),(4,.ptr 2 0),(5,.ptr 3 0),(6,VI x317)] ∧ σ = [(0,.box [RO 98 (x1.Files.map encFile)]),(1,.box [VS x2.Name,VS x2.Text]),(2,.box [.sl 4 98 0 (([] : (List File)).length)]),(3,.box [.sl 5 98 0 x322.length]),(4,.vec 98 (([] : (List File)).map encFile)),(5,.vec 98 (x322.map encFile))]) (Gh.trans (Gh.trans (gh_prn [2,3,4,5,6] [1000,1016,1032,5112] hB e) (gh_nil [] [1032,5112] hB e e e)) (gh_pk [2,3,4,5,6] [1000,1016,1032,5112,20000000,20000064] hB e e e e)) ⟨_,_,h,e,e⟩ ?_
  rintro m340 fr σ ⟨x317,x322,h,rfl,rfl⟩
  obtain _ | m340 := m340
  ·rw [spec_l03Put_l1] at h; cases h
  rw [spec_l03Put_l1] at h
  refine Run.seq (.so hm (.p3 e e e (.z 13336 (Ev.lnF e) e e (.p e (.nil (.condO e h (fun g343 h => ?_) (fun g343 h => ?_)))))))
  ·refine Run.skip (.seqO h (fun v351 => [(2,.ptr 0 0),(3,.ptr 1 0),(4,.ptr 2 0),(5,.ptr 3 0),(6,VI x317)]) (fun (v351 : (List File)) => [(0,.box [RO 98 (x1.Files.map encFile)]),(1,.box [VS x2.Name,VS x2.Text]),(2,.box [.sl 4 98 0 (([] : (List File)).length)]),(3,.box [.sl 5 98 0 v351.length]),(4,.vec 98 (([] : (List File)).map encFile)),(5,.vec 98 (v351.map encFile))]) (fun h => ?_) (fun v351 h => ?_))
   ·refine Run.block (.seq (.draw hm hmix (.p e (.p e (.p e ?_)))))
    obtain ⟨x353,hx353,h⟩ := bindO h
    refine OpsD.z 21528 (Ev.iaF e e hx353) e e (.p e (.p e (.p e (.p e (.p e (.nil ⟨by kernel_rfl,?_⟩))))))
    refine Run.condO e h (fun g354 h => ?_) (fun g354 h => ?_)
    ·refine Run.draw hm hmix (.p e (.p e (.p e (.p e (.p e ?_)))))
     obtain ⟨x357,hx357,h⟩ := bindO h
     refine OpsD.z 25656 (Ev.iaF e e hx357) e e (.p e (.z 25688 (Ev.bsW (ys := ([x357] : List File)) (f := encFile) e (.d2 .nil) e e e e e) e e ?_))
     obtain ⟨x358,hx358,h⟩ := bindO h
     refine OpsD.z 25704 (Ev.apW (f := encFile) (ontoW e e e) (addsW e e e (fun _ => e)) e bt98 e hx358) e e (.p e (.y 25736 (.sto e e e e e e) e e (.nil ⟨by kernel_rfl,?_⟩)))
     exact ⟨_,_,(gh_pk [2,3,4,5,6] [0,1,2,3,4,25704] hB e e e e),_,h,e,e⟩
    ·exact Run.skip (⟨_,_,(gh_pk [2,3,4,5,6] [0,1,2,3,4,5] hB e e e e),_,h,e,e⟩)
   ·exact Run.ops hm (.p3 e e e (.nil (⟨m340,Nat.lt_succ_self m340,_,_,(gh_pk [2,3,4,5,6] [0,1,2,3,4,5] hB e e e e),_,_,h,e,e⟩)))
  ·refine Run.exit ?_
   obtain rfl := someO h
   have h := hk340
   exact ⟨_,_,(gh_pk [2,3,4,5] [0,1,2,3,4,5] hB e e e e),_,h,e,e⟩
 ·refine Run.so hm (.p3 e e e (.z 29720 (Ev.bsW (ys := ([x2] : List File)) (f := encFile) e (.d2 .nil) e e e e e) e e ?_))
  obtain ⟨x362,hx362,h⟩ := bindO h
  refine Ops.z 29736 (Ev.apW (f := encFile) (ontoW e e e) (addsW e e e (fun _ => e)) e bt98 e hx362) e e (.p e (.y 29768 (.sto e e e e e e) e e (.nil (.seqO h (fun v405 => [(4,.ptr 0 0),(5,.ptr 1 0)]) (fun (v405 : (List File)) => [(0,.box [.sl 2 98 0 (([] : (List File)).length)]),(1,.box [.sl 3 98 0 v405.length]),(2,.vec 98 (([] : (List File)).map encFile)),(3,.vec 98 (v405.map encFile))]) (fun h => ?_) (fun v405 h => ?_)))))
  ·refine Run.so hm (.p e (.nil (.block ?_)))
   obtain ⟨res429,h,hk429⟩ := bindO h
   refine Run.loop (n := N) (fun m429 fr σ => ∃ (x406 : Int),∃ (x411 : (List File)),spec_l03Put_l2 N x1 x2 m429 x406 x411 = some res429 ∧ fr = [(2,.ptr 0 0),(3,.ptr 1 0),(4,.ptr 2 0),(5,.ptr 3 0),(7,VI x406)] ∧ σ = [(0,.box [RO 98 (x1.Files.map encFile)]),(1,.box [VS x2.Name,VS x2.Text]),(2,.box [.sl 4 98 0 (([] : (List File)).length)]),(3,.box [.sl 5 98 0 x411.length]),(4,.vec 98 (([] : (List File)).map encFile)),(5,.vec 98 (x411.map encFile))]) (gh_pk [2,3,4,5,7] [0,1,2,3,4,29736] hB e e e e) ⟨_,_,h,e,e⟩ ?_
   rintro m429 fr σ ⟨x406,x411,h,rfl,rfl⟩
   obtain _ | m429 := m429
   ·rw [spec_l03Put_l2] at h; cases h
   rw [spec_l03Put_l2] at h
   refine Run.seq (.so hm (.p3 e e e (.z 37912 (Ev.lnF e) e e (.p e (.nil (.condO e h (fun g432 h => ?_) (fun g432 h => ?_)))))))
   ·refine Run.skip (.seqO h (fun v440 => [(2,.ptr 0 0),(3,.ptr 1 0),(4,.ptr 2 0),(5,.ptr 3 0),(7,VI x406)]) (fun (v440 : (List File)) => [(0,.box [RO 98 (x1.Files.map encFile)]),(1,.box [VS x2.Name,VS x2.Text]),(2,.box [.sl 4 98 0 (([] : (List File)).length)]),(3,.box [.sl 5 98 0 v440.length]),(4,.vec 98 (([] : (List File)).map encFile)),(5,.vec 98 (v440.map encFile))]) (fun h => ?_) (fun v440 h => ?_))
    ·refine Run.block (.seq (.draw hm hmix (.p e (.p e (.p e ?_)))))
     obtain ⟨x442,hx442,h⟩ := bindO h
     refine OpsD.z 46104 (Ev.iaF e e hx442) e e (.p e (.p e (.p e (.p e (.p e (.nil ⟨by kernel_rfl,?_⟩))))))
     refine Run.condO e h (fun g443 h => ?_) (fun g443 h => ?_)
     ·refine Run.draw hm hmix (.p e (.p e (.p e (.p e (.p e ?_)))))
      obtain ⟨x446,hx446,h⟩ := bindO h
      refine OpsD.z 50232 (Ev.iaF e e hx446) e e (.p e (.z 50264 (Ev.bsW (ys := ([x446] : List File)) (f := encFile) e (.d2 .nil) e e e e e) e e ?_))
      obtain ⟨x447,hx447,h⟩ := bindO h
      refine OpsD.z 50280 (Ev.apW (f := encFile) (ontoW e e e) (addsW e e e (fun _ => e)) e bt98 e hx447) e e (.p e (.y 50312 (.sto e e e e e e) e e (.nil ⟨by kernel_rfl,?_⟩)))
      exact ⟨_,_,(gh_pk [2,3,4,5,7] [0,1,2,3,4,50280] hB e e e e),_,h,e,e⟩
     ·exact Run.skip (⟨_,_,(gh_pk [2,3,4,5,7] [0,1,2,3,4,5] hB e e e e),_,h,e,e⟩)
    ·exact Run.ops hm (.p3 e e e (.nil (⟨m429,Nat.lt_succ_self m429,_,_,(gh_pk [2,3,4,5,7] [0,1,2,3,4,5] hB e e e e),_,_,h,e,e⟩)))
   ·refine Run.exit ?_
    obtain rfl := someO h
    have h := hk429
    exact ⟨_,_,(gh_pk [4,5] [2,3,4,5] hB e e e e),_,h,e,e⟩
  ·refine Run.so hm (.p e (.y 54264 (.sto e e e e e e) e e (.nil (.ret ?_))))
   obtain rfl := someO h
   exact Ends.mkG (.inl e) e (gh_pk [0] [3] hB e e e e) e e
end Go.Proofs.YtmnoonjkiflonaaGreatDoor.Pe.FnExactReadScript
