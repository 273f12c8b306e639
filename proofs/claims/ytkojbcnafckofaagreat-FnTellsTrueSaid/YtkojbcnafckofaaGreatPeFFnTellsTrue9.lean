/- Functions,as pure functions; and that Go does just that. -/
import Derived.Test.YtkojbcnafckofaaGreatPeFFnTellsTrue8
namespace Go.Proofs.YtkojbcnafckofaaGreat.Pe.FnTellsTrue
open Go Go.RowKit
set_option linter.unusedVariables false
set_option linter.unusedSimpArgs false
set_option maxHeartbeats 40000000
set_option maxRecDepth 100000
def laws_FnTellsTrue_l1 (N : Nat) (y558 : Node × Message) (y562 : Node × (List Message) × Bool) (y566 : Node × (List Message) × Bool) : Nat → Int → Option ((Bool) ⊕ (Unit))
 | 0,_ => none
 | m + 1,x786 =>
 (if (decide (x786 < ((y562.2.1.length : Nat) : Int))) = true then
 joinP (fun (v957 : Unit) =>
 laws_FnTellsTrue_l1 N y558 y562 y566 m (w64 (x786 + 1))) fun j957 =>
 (at? y562.2.1 x786).bind fun x961 =>
 (at? y566.2.1 x786).bind fun x978 =>
 (laws_sameMessage N x961 x978).bind fun y979 =>
 (if (!y979) = true then
 some (Sum.inl false)
 else
 (if (x961.From != y558.1.Id) = true then
 some (Sum.inl false)
 else
 (if (x961.Term != y562.1.Term) = true then
 some (Sum.inl false)
 else
 (if (x961.To == y558.1.Id) = true then
 some (Sum.inl false)
 else
 (if (x961.Kind == 2) = true then
 (if x961.Ok = true then
 (spec_LogLast N y558.1.Log).bind fun y990 =>
 (if (y562.1.Vote != x961.To) = true then
 some (Sum.inl false)
 else
 (if (decide (y558.2.LogTerm < y990.2)) = true then
 some (Sum.inl false)
 else
 (if (y558.2.LogTerm == y990.2) = true then
 (if (decide (y558.2.Index < y990.1)) = true then
 some (Sum.inl false)
 else
 j957 ())
 else
 j957 ())))
 else
 j957 ())
 else
 j957 ())))))
 else
 some (Sum.inr ()))
def laws_FnTellsTrue (N : Nat) (x1 : (List Int)) : Option (Bool) :=
 (laws_big N x1).bind fun y553 =>
 (if y553 = true then
 some true
 else
 (spec_DrawRightNode N x1).bind fun y558 =>
 (impl_Receive N y558.1 y558.2).bind fun y562 =>
 (spec_Receive N y558.1 y558.2).bind fun y566 =>
 (if ((y562.2.2 == y566.2.2) ^^ true) = true then
 some false
 else
 (if (((y562.2.1.length : Nat) : Int) != ((y566.2.1.length : Nat) : Int)) = true then
 some false
 else
 joinP (fun (v785 : Unit) =>
 some true) fun j785 =>
 (laws_FnTellsTrue_l1 N y558 y562 y566 N 0).bind (Sum.elim (fun v912 => some v912) (fun (v913 : Unit) => j785 ())))))
theorem sem_laws_FnTellsTrue (N : Nat) (x1 : (List Int)) (r : Bool) (h : laws_FnTellsTrue N x1 = some r) : Says Tryz.prog 4 [RO 5 (x1.map encU)] 0 [] (VB r) [] := by
 unfold laws_FnTellsTrue at h
 refine Says.of_norm e Tryz.call4 e fun B hB => ?_
 have hm : B.m ≤ 1000 := by omega
 refine Run.so hm (.p e (.nil (.seq (.so hm (.p e ?_)))))
 obtain ⟨y553,hy553,h⟩ := bindO h
 refine Ops.z 5112 (Ev.call [] [] 0 (sem_laws_big _ _ _ hy553) e e (.d1 .nil) e (.inl e) e e) e e (.nil (.condO e h (fun g554 h => ?_) (fun g554 h => ?_)))
 ·refine Run.so hm (.p e (.nil (.ret ?_)))
  obtain rfl := someO h
  exact Ends.mkG (.inl e) e (gh_pk [0] [] hB e e e e) e e
 ·refine Run.skip (.so hm (.p e ?_))
  obtain ⟨y558,hy558,h⟩ := bindO h
  refine Ops.z 13304 (Ev.call [] [] 0 (sem_spec_DrawRightNode _ _ _ hy558) e e (.d1 .nil) e (.inl e) e e) e e (.p3 e e e (.z 13368 (.al e e) e e (.z 13384 (.al e e) e e (.y 13400 (.sto e e e e e e) e e (.y 13416 (.sto e e e e e e) e e (.nil (.so hm (.p2 e e ?_))))))))
  obtain ⟨y562,hy562,h⟩ := bindO h
  refine Ops.z 17416 (Ev.call [] [] 5 (sem_impl_Receive _ _ _ _ hy562) e e (.cons (.agg (.d4 (.d4 (.d4 (.d2 .nil))))) (.cons (.agg (.d4 (.d4 (.d4 .nil)))) .nil)) e (.inl e) e e) e e (.p3 e e e (.p e (.z 17496 (.al e e) e e (.y 17512 (.sto e e e e e e) e e (.p2 e e (.nil (.so hm (.p2 e e ?_))))))))
  obtain ⟨y566,hy566,h⟩ := bindO h
  refine Ops.z 21512 (Ev.call [] [] 5 (sem_spec_Receive _ _ _ _ hy566) e e (.cons (.agg (.d4 (.d4 (.d4 (.d2 .nil))))) (.cons (.agg (.d4 (.d4 (.d4 .nil)))) .nil)) e (.inl e) e e) e e (.p3 e e e (.p e (.z 21592 (.al e e) e e (.y 21608 (.sto e e e e e e) e e (.p2 e e (.nil (.seq (.so hm (.p3 e e e (.p e (.askO (x := .t 39) e h (fun g571 h => ?_) (fun g571 h => ?_))))))))))))
  ·refine Ops.gn e g571 (.gn e g571 (.gn e g571 (.gn e g571 (.gn e g571 (.z 25720 (.pkT e g571 e) e e (.nil (.condT e e (.so hm (.p e (.nil (.ret ?_)))))))))))
   obtain rfl := someO h
   exact Ends.mkG (.inl e) e (gh_pk [0] [] hB e e e e) e e
  ·refine Ops.gp e g571 e (.gp e g571 e (.gp e g571 e (.gp e g571 e (.gp e g571 e (.z 25720 (.pkF e g571 e) e e (.nil (.condO e h (fun g572 h => ?_) (fun g572 h => ?_))))))))
   ·refine Run.so hm (.p e (.nil (.ret ?_)))
    obtain rfl := someO h
    exact Ends.mkG (.inl e) e (gh_pk [0] [] hB e e e e) e e
   ·refine Run.skip (.seqO h (fun v785 => []) (fun (v785 : Unit) => []) (fun h => ?_) (fun v785 h => ?_))
    ·refine Run.so hm (.p e (.nil (.block ?_)))
     obtain ⟨res913,h,hk913⟩ := bindO h
     refine Run.loop (n := N) (fun m913 fr σ => ∃ (x786 : Int),laws_FnTellsTrue_l1 N y558 y562 y566 m913 x786 = some res913 ∧ fr = [(3,.ptr 0 0),(4,.ptr 1 0),(5,.ptr 2 0),(6,.sl 3 32 0 y562.2.1.length),(9,.sl 4 32 0 y566.2.1.length),(11,VI x786)] ∧ σ = [(0,.box [VI y558.1.Id,VI y558.1.Term,VI y558.1.Vote,VI y558.1.Role,VI y558.1.Lead,RO 3 (y558.1.Conf.map encI),VI y558.1.Log.Start,VI y558.1.Log.StartTerm,RO 40 (y558.1.Log.Entries.map encEntry),VI y558.1.Commit,VI y558.1.Clock,VI y558.1.Limit,RO 3 (y558.1.Votes.map encI),RO 98 (y558.1.Peers.map encPeer)]),(1,.box [VI y558.2.Kind,VI y558.2.From,VI y558.2.To,VI y558.2.Term,VI y558.2.Index,VI y558.2.LogTerm,VI y558.2.Commit,VB y558.2.Ok,RO 40 (y558.2.Entries.map encEntry),RO 3 (y558.2.Conf.map encI),VS y558.2.Data,VB y558.2.Last]),(2,.box [VI y562.1.Id,VI y562.1.Term,VI y562.1.Vote,VI y562.1.Role,VI y562.1.Lead,.sl 5 3 0 y562.1.Conf.length,VI y562.1.Log.Start,VI y562.1.Log.StartTerm,.sl 6 40 0 y562.1.Log.Entries.length,VI y562.1.Commit,VI y562.1.Clock,VI y562.1.Limit,.sl 7 3 0 y562.1.Votes.length,.sl 8 98 0 y562.1.Peers.length]),(3,.vec 32 (y562.2.1.map (encMessage false))),(4,.vec 32 (y566.2.1.map (encMessage false))),(5,.vec 3 (y562.1.Conf.map encI)),(6,.vec 40 (y562.1.Log.Entries.map encEntry)),(7,.vec 3 (y562.1.Votes.map encI)),(8,.vec 98 (y562.1.Peers.map encPeer))]) (gh_pk [3,4,5,6,9,11] [13368,13384,17496,17420,21516,17416,17417,17418,17419] hB e e e e) ⟨_,h,e,e⟩ ?_
     rintro m913 fr σ ⟨x786,h,rfl,rfl⟩
     obtain _ | m913 := m913
     ·rw [laws_FnTellsTrue_l1] at h; cases h
     rw [laws_FnTellsTrue_l1] at h
     refine Run.seq (.so hm (.p3 e e e (.p e (.nil (.condO e h (fun g916 h => ?_) (fun g916 h => ?_))))))
     ·refine Run.skip (.seqO h (fun v957 => [(3,.ptr 0 0),(4,.ptr 1 0),(5,.ptr 2 0),(6,.sl 3 32 0 y562.2.1.length),(9,.sl 4 32 0 y566.2.1.length),(11,VI x786)]) (fun (v957 : Unit) => [(0,.box [VI y558.1.Id,VI y558.1.Term,VI y558.1.Vote,VI y558.1.Role,VI y558.1.Lead,RO 3 (y558.1.Conf.map encI),VI y558.1.Log.Start,VI y558.1.Log.StartTerm,RO 40 (y558.1.Log.Entries.map encEntry),VI y558.1.Commit,VI y558.1.Clock,VI y558.1.Limit,RO 3 (y558.1.Votes.map encI),RO 98 (y558.1.Peers.map encPeer)]),(1,.box [VI y558.2.Kind,VI y558.2.From,VI y558.2.To,VI y558.2.Term,VI y558.2.Index,VI y558.2.LogTerm,VI y558.2.Commit,VB y558.2.Ok,RO 40 (y558.2.Entries.map encEntry),RO 3 (y558.2.Conf.map encI),VS y558.2.Data,VB y558.2.Last]),(2,.box [VI y562.1.Id,VI y562.1.Term,VI y562.1.Vote,VI y562.1.Role,VI y562.1.Lead,.sl 5 3 0 y562.1.Conf.length,VI y562.1.Log.Start,VI y562.1.Log.StartTerm,.sl 6 40 0 y562.1.Log.Entries.length,VI y562.1.Commit,VI y562.1.Clock,VI y562.1.Limit,.sl 7 3 0 y562.1.Votes.length,.sl 8 98 0 y562.1.Peers.length]),(3,.vec 32 (y562.2.1.map (encMessage false))),(4,.vec 32 (y566.2.1.map (encMessage false))),(5,.vec 3 (y562.1.Conf.map encI)),(6,.vec 40 (y562.1.Log.Entries.map encEntry)),(7,.vec 3 (y562.1.Votes.map encI)),(8,.vec 98 (y562.1.Peers.map encPeer))]) (fun h => ?_) (fun v957 h => ?_))
      ·refine Run.block (.so hm (.p2 e e ?_))
       obtain ⟨x961,hx961,h⟩ := bindO h
       refine Ops.z 46088 (Ev.iaW e e e hx961) e e (.z 46104 (Ev.ldE (f := (encMessage false)) e e (at_some hx961).2 e e e) e e (.z 46120 (.al e e) e e (.y 46136 (.sto e e e e e e) e e (.nil (.seq (.seq (.draw hm hmix (.p e (.p e (.p e ?_))))))))))
       obtain ⟨x978,hx978,h⟩ := bindO h
       refine OpsD.z 50200 (Ev.iaW e e e hx978) e e (.z 50216 (Ev.ldE (f := (encMessage false)) e e (at_some hx978).2 e e e) e e ?_)
       obtain ⟨y979,hy979,h⟩ := bindO h
       refine OpsD.z 50232 (Ev.call [] [] 0 (sem_laws_sameMessage _ _ _ _ hy979) e e (.cons (.agg (.d4 (.d4 (.d4 .nil)))) (.cons (.agg (.d4 (.d4 (.d4 .nil)))) .nil)) e (.inl e) e e) e e (.p e (.p e (.askO (x := .t 63) e h (fun g980 h => ?_) (fun g980 h => ?_))))
       ·refine OpsD.gn e g980 (.gn e g980 (.gn e g980 (.gn e g980 (.gn e g980 (.z 50360 (.pkT e g980 e) e e (.p e (.gn e e (.gn e e (.gn e e (.gn e e (.gn e e (.z 50472 (.pkT e e e) e e (.p e (.gn e e (.gn e e (.gn e e (.gn e e (.gn e e (.z 50584 (.pkT e e e) e e (.nil ⟨by kernel_rfl,?_⟩))))))))))))))))))))
        refine Run.condT e e (.so hm (.p e (.nil (.ret ?_))))
        obtain rfl := someO h
        have h := hk913
        replace h := inlO h
        obtain rfl := someO h
        exact Ends.mkG (.inl e) e (gh_pk [0] [] hB e e e e) e e
       ·refine OpsD.gp e g980 e (.gp e g980 e (.gp e g980 e (.gp e g980 e (.gp e g980 e (.z 50360 (.pkF e g980 e) e e (.p e (.askO (x := .t 70) e h (fun g981 h => ?_) (fun g981 h => ?_))))))))
        ·refine OpsD.gn e g981 (.gn e g981 (.gn e g981 (.gn e g981 (.gn e g981 (.z 50472 (.pkT e g981 e) e e (.p e (.gn e e (.gn e e (.gn e e (.gn e e (.gn e e (.z 50584 (.pkT e e e) e e (.nil ⟨by kernel_rfl,?_⟩)))))))))))))
         refine Run.condT e e (.so hm (.p e (.nil (.ret ?_))))
         obtain rfl := someO h
         have h := hk913
         replace h := inlO h
         obtain rfl := someO h
         exact Ends.mkG (.inl e) e (gh_pk [0] [] hB e e e e) e e
        ·refine OpsD.gp e g981 e (.gp e g981 e (.gp e g981 e (.gp e g981 e (.gp e g981 e (.z 50472 (.pkF e g981 e) e e (.p e (.askO (x := .t 77) e h (fun g982 h => ?_) (fun g982 h => ?_))))))))
         ·refine OpsD.gn e g982 (.gn e g982 (.gn e g982 (.gn e g982 (.gn e g982 (.z 50584 (.pkT e g982 e) e e (.nil ⟨by kernel_rfl,?_⟩))))))
          refine Run.condT e e (.so hm (.p e (.nil (.ret ?_))))
          obtain rfl := someO h
          have h := hk913
          replace h := inlO h
          obtain rfl := someO h
          exact Ends.mkG (.inl e) e (gh_pk [0] [] hB e e e e) e e
         ·refine OpsD.gp e g982 e (.gp e g982 e (.gp e g982 e (.gp e g982 e (.gp e g982 e (.z 50584 (.pkF e g982 e) e e (.nil ⟨by kernel_rfl,?_⟩))))))
          refine Run.condO e h (fun g983 h => ?_) (fun g983 h => ?_)
          ·refine Run.so hm (.p e (.nil (.ret ?_)))
           obtain rfl := someO h
           have h := hk913
           replace h := inlO h
           obtain rfl := someO h
           exact Ends.mkG (.inl e) e (gh_pk [0] [] hB e e e e) e e
          ·refine Run.skip (.so hm (.p3 e e e (.p e (.askO (x := .t 87) e h (fun g985 h => ?_) (fun g985 h => ?_)))))
           ·refine Ops.gp e g985 e (.gp e g985 e (.z 58440 (.pkT e g985 e) e e (.nil (.condO e h (fun g986 h => ?_) (fun g986 h => ?_)))))
            ·refine Run.so hm (.p2 e e ?_)
             obtain ⟨y990,hy990,h⟩ := bindO h
             refine Ops.z 62472 (Ev.call [] [] 0 (sem_spec_LogLast _ _ _ hy990) e e (.cons (.agg (.d2 (.d1 .nil))) .nil) e (.inl e) e e) e e (.p3 e e e (.p2 e e (.nil (.so hm (.p3 e e e (.p3 e e e (.askO (x := .t 102) e h (fun g994 h => ?_) (fun g994 h => ?_))))))))
             ·refine Ops.gn e g994 (.gn e g994 (.gn e g994 (.gn e g994 (.z 66696 (.pkT e g994 e) e e (.p e (.gn e e (.gn e e (.gn e e (.gn e e (.gn e e (.gu e (.gu e (.gu e (.gu e (.gn e e (.z 66888 (.pkT e e e) e e (.nil (.condT e e (.so hm (.p e (.nil (.ret ?_))))))))))))))))))))))
              obtain rfl := someO h
              have h := hk913
              replace h := inlO h
              obtain rfl := someO h
              exact Ends.mkG (.inl e) e (gh_pk [0] [] hB e e e e) e e
             ·refine Ops.gp e g994 e (.gp e g994 e (.gp e g994 e (.gp e g994 e (.z 66696 (.pkF e g994 e) e e (.p e (.askO (x := .t 108) e h (fun g995 h => ?_) (fun g995 h => ?_)))))))
              ·refine Ops.gn e g995 (.gn e g995 (.gn e g995 (.gn e g995 (.gn e g995 (.gu e (.gu e (.gu e (.gu e (.gn e g995 (.z 66888 (.pkT e g995 e) e e (.nil (.condT e e (.so hm (.p e (.nil (.ret ?_))))))))))))))))
               obtain rfl := someO h
               have h := hk913
               replace h := inlO h
               obtain rfl := someO h
               exact Ends.mkG (.inl e) e (gh_pk [0] [] hB e e e e) e e
              ·refine Ops.gp e g995 e (.gp e g995 e (.gp e g995 e (.gp e g995 e (.gp e g995 e (.askO (x := .t 113) e h (fun g996 h => ?_) (fun g996 h => ?_))))))
               ·refine Ops.gp e g996 e (.gp e g996 e (.gp e g996 e (.gp e g996 e (.gs (s := 66872) e g995 (.pkT e g996 e) e e (.z 66888 (.pkF e g995 e) e e (.nil (.condO e h (fun g997 h => ?_) (fun g997 h => ?_))))))))
                ·refine Run.so hm (.p e (.nil (.ret ?_)))
                 obtain rfl := someO h
                 have h := hk913
                 replace h := inlO h
                 obtain rfl := someO h
                 exact Ends.mkG (.inl e) e (gh_pk [0] [] hB e e e e) e e
                ·exact Run.skip (⟨_,_,(gh_pk [3,4,5,6,9,11] [0,1,2,3,4,5,6,7,8] hB e e e e),(),h,e,e⟩)
               ·exact Ops.gn e g996 (.gn e g996 (.gn e g996 (.gn e g996 (.gs (s := 66872) e g995 (.pkF e g996 e) e e (.z 66888 (.pkF e g995 e) e e (.nil (.condF e e (.skip (⟨_,_,(gh_pk [3,4,5,6,9,11] [0,1,2,3,4,5,6,7,8] hB e e e e),(),h,e,e⟩)))))))))
            ·exact Run.skip (⟨_,_,(gh_pk [3,4,5,6,9,11] [0,1,2,3,4,5,6,7,8] hB e e e e),(),h,e,e⟩)
           ·exact Ops.gn e g985 (.gn e g985 (.z 58440 (.pkF e g985 e) e e (.nil (.condF e e (.skip (⟨_,_,(gh_pk [3,4,5,6,9,11] [0,1,2,3,4,5,6,7,8] hB e e e e),(),h,e,e⟩))))))
      ·exact Run.ops hm (.p3 e e e (.nil (⟨m913,Nat.lt_succ_self m913,_,_,(gh_pk [3,4,5,6,9,11] [0,1,2,3,4,5,6,7,8] hB e e e e),_,h,e,e⟩)))
     ·refine Run.exit ?_
      obtain rfl := someO h
      have h := hk913
      replace h := inrO h
      exact ⟨_,_,(gh_pk [] [] hB e e e e),(),h,e,e⟩
    ·refine Run.so hm (.p e (.nil (.ret ?_)))
     obtain rfl := someO h
     exact Ends.mkG (.inl e) e (gh_pk [0] [] hB e e e e) e e
end Go.Proofs.YtkojbcnafckofaaGreat.Pe.FnTellsTrue
