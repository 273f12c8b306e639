/- Functions,as pure functions; and that Go does just that. -/
import Derived.Test.YtedoifjaobebeaaGreatDoorPeFFnExactShowWorld2
namespace Go.Proofs.YtedoifjaobebeaaGreatDoor.Pe.FnExactShowWorld
open Go Go.RowKit
set_option linter.unusedVariables false
set_option linter.unusedSimpArgs false
set_option maxHeartbeats 40000000
set_option maxRecDepth 100000
def laws_eqServer (N : Nat) (x1 : Server) (x2 : Server) : Option (Bool) :=
 (laws_eqNode N x1.Node x2.Node).bind fun y127 =>
 (if (!y127) = true then
 some false
 else
 (laws_eqDisk N x1.Disk x2.Disk).bind fun y133 =>
 (if (!y133) = true then
 some false
 else
 (laws_eqShelf N x1.Shelf x2.Shelf).bind fun y139 =>
 (if (!y139) = true then
 some false
 else
 (if (!decide (x1.Stage = x2.Stage)) = true then
 some false
 else
 (if (x1.StageAt != x2.StageAt) = true then
 some false
 else
 (if (x1.StageTerm != x2.StageTerm) = true then
 some false
 else
 some true))))))
theorem sem_laws_eqServer (N : Nat) (x1 : Server) (x2 : Server) (r : Bool) (h : laws_eqServer N x1 x2 = some r) : Says Tryz.prog 45 [.agg [VI x1.Node.Id,VI x1.Node.Term,VI x1.Node.Vote,VI x1.Node.Role,VI x1.Node.Lead,RO 3 (x1.Node.Conf.map encI),VI x1.Node.Log.Start,VI x1.Node.Log.StartTerm,RO 131 (x1.Node.Log.Entries.map encEntry),VI x1.Node.Commit,VI x1.Node.Clock,VI x1.Node.Limit,RO 3 (x1.Node.Votes.map encI),RO 186 (x1.Node.Peers.map encPeer),RO 189 (x1.Disk.Files.map encFile),RO 3 (x1.Shelf.Man.Segs.map encI),VI x1.Shelf.Man.Next,VI x1.Shelf.Man.Base,VI x1.Shelf.Man.BaseTerm,RO 3 (x1.Shelf.Man.Conf.map encI),RO 191 (x1.Shelf.Dir.map encSpot),VI x1.Shelf.Stamp,VS x1.Stage,VI x1.StageAt,VI x1.StageTerm],.agg [VI x2.Node.Id,VI x2.Node.Term,VI x2.Node.Vote,VI x2.Node.Role,VI x2.Node.Lead,RO 3 (x2.Node.Conf.map encI),VI x2.Node.Log.Start,VI x2.Node.Log.StartTerm,RO 131 (x2.Node.Log.Entries.map encEntry),VI x2.Node.Commit,VI x2.Node.Clock,VI x2.Node.Limit,RO 3 (x2.Node.Votes.map encI),RO 186 (x2.Node.Peers.map encPeer),RO 189 (x2.Disk.Files.map encFile),RO 3 (x2.Shelf.Man.Segs.map encI),VI x2.Shelf.Man.Next,VI x2.Shelf.Man.Base,VI x2.Shelf.Man.BaseTerm,RO 3 (x2.Shelf.Man.Conf.map encI),RO 191 (x2.Shelf.Dir.map encSpot),VI x2.Shelf.Stamp,VS x2.Stage,VI x2.StageAt,VI x2.StageTerm]] 0 [] (VB r) [] := by
 unfold laws_eqServer at h
 refine Says.of_norm e Tryz.call45 e fun B hB => ?_
 have hm : B.m ≤ 1000 := by omega
 refine Run.so hm (.z 1000 (.bx e e) e e (.z 1016 (.bx e e) e e (.p e (.nil (.seq (.so hm (.p3 e e e (.p e ?_))))))))
 obtain ⟨y127,hy127,h⟩ := bindO h
 refine Ops.z 5160 (Ev.call [] [] 0 (sem_laws_eqNode _ _ _ _ hy127) e e (.cons (.agg (.d4 (.d4 (.d4 (.d2 .nil))))) (.cons (.agg (.d4 (.d4 (.d4 (.d2 .nil))))) .nil)) e (.inl e) e e) e e (.p e (.nil (.condO e h (fun g128 h => ?_) (fun g128 h => ?_))))
 ·refine Run.so hm (.p e (.nil (.ret ?_)))
  obtain rfl := someO h
  exact Ends.mkG (.inl e) e (gh_pk [0] [] hB e e e e) e e
 ·refine Run.skip (.seq (.so hm (.p3 e e e (.p e ?_))))
  obtain ⟨y133,hy133,h⟩ := bindO h
  refine Ops.z 13352 (Ev.call [] [] 0 (sem_laws_eqDisk _ _ _ _ hy133) e e (.cons (.agg (.d1 .nil)) (.cons (.agg (.d1 .nil)) .nil)) e (.inl e) e e) e e (.p e (.nil (.condO e h (fun g134 h => ?_) (fun g134 h => ?_))))
  ·refine Run.so hm (.p e (.nil (.ret ?_)))
   obtain rfl := someO h
   exact Ends.mkG (.inl e) e (gh_pk [0] [] hB e e e e) e e
  ·refine Run.skip (.seq (.so hm (.p3 e e e (.p e ?_))))
   obtain ⟨y139,hy139,h⟩ := bindO h
   refine Ops.z 21544 (Ev.call [] [] 0 (sem_laws_eqShelf _ _ _ _ hy139) e e (.cons (.agg (.d4 (.d2 (.d1 .nil)))) (.cons (.agg (.d4 (.d2 (.d1 .nil)))) .nil)) e (.inl e) e e) e e (.p e (.nil (.condO e h (fun g140 h => ?_) (fun g140 h => ?_))))
   ·refine Run.so hm (.p e (.nil (.ret ?_)))
    obtain rfl := someO h
    exact Ends.mkG (.inl e) e (gh_pk [0] [] hB e e e e) e e
   ·refine Run.skip (.seq (.so hm (.p3 e e e (.p2 e e (.nil (.condO e h (fun g142 h => ?_) (fun g142 h => ?_)))))))
    ·refine Run.so hm (.p e (.nil (.ret ?_)))
     obtain rfl := someO h
     exact Ends.mkG (.inl e) e (gh_pk [0] [] hB e e e e) e e
    ·refine Run.skip (.seq (.so hm (.p3 e e e (.p2 e e (.nil (.condO e h (fun g144 h => ?_) (fun g144 h => ?_)))))))
     ·refine Run.so hm (.p e (.nil (.ret ?_)))
      obtain rfl := someO h
      exact Ends.mkG (.inl e) e (gh_pk [0] [] hB e e e e) e e
     ·refine Run.skip (.seq (.so hm (.p3 e e e (.p2 e e (.nil (.condO e h (fun g145 h => ?_) (fun g145 h => ?_)))))))
      ·refine Run.so hm (.p e (.nil (.ret ?_)))
       obtain rfl := someO h
       exact Ends.mkG (.inl e) e (gh_pk [0] [] hB e e e e) e e
      ·refine Run.skip (.so hm (.p e (.nil (.ret ?_))))
       obtain rfl := someO h
       exact Ends.mkG (.inl e) e (gh_pk [0] [] hB e e e e) e e
def laws_eqServerS_l1 (N : Nat) (x1 : (List Server)) (x2 : (List Server)) : Nat → Int → Option ((Bool) ⊕ (Unit))
 | 0,_ => none
 | m + 1,x222 =>
 (if (decide (x222 < (x1.length : Int))) = true then
 (at? x1 x222).bind fun x254 =>
 (at? x2 x222).bind fun x255 =>
 (laws_eqServer N x254 x255).bind fun y256 =>
 (if (!y256) = true then
 some (Sum.inl false)
 else
 laws_eqServerS_l1 N x1 x2 m (w64 (x222 + 1)))
 else
 some (Sum.inr ()))
def laws_eqServerS_l1_r (N : Nat) (x1 : (List Server)) (x2 : (List Server)) : (List Server) → Int → Option ((Bool) ⊕ (Unit))
 | [],x222 =>
 some (Sum.inr ())
 | hd :: tl,x222 =>
 (some hd).bind fun x254 =>
 (at? x2 x222).bind fun x255 =>
 (laws_eqServer N x254 x255).bind fun y256 =>
 (if (!y256) = true then
 some (Sum.inl false)
 else
 laws_eqServerS_l1_r N x1 x2 tl (w64 (x222 + 1)))
theorem laws_eqServerS_l1_rng (N : Nat) (x1 : (List Server)) (x2 : (List Server)) (hx : x1.length ≤ 1099511627776) : ∀ (d k m : Nat),x1.length = k + d → d < m → laws_eqServerS_l1 N x1 x2 m (k : Int) = laws_eqServerS_l1_r N x1 x2 (x1.drop k) (k : Int) := by
 intro d
 induction d with
 | zero =>
  intro k m hd hm
  obtain ⟨m,rfl⟩ : ∃ q,m = q + 1 := ⟨m - 1,by omega⟩
  rw [laws_eqServerS_l1,if_neg (by simp; omega),List.drop_eq_nil_of_le (by omega),laws_eqServerS_l1_r]
 | succ d ih =>
  intro k m hd hm
  obtain ⟨m,rfl⟩ : ∃ q,m = q + 1 := ⟨m - 1,by omega⟩
  have hk : k < x1.length := by omega
  rw [laws_eqServerS_l1,if_pos (by simp; omega),List.drop_eq_getElem_cons hk,laws_eqServerS_l1_r]
  have h1 := at_lt hk
  have h2 := w64_succ (k := k) (by omega)
  have h3 := ih (k + 1) m
  simp only [h1,h2,h3 (by omega) (by omega)]
theorem laws_eqServerS_l1_eq {N : Nat} (x1 : (List Server)) (x2 : (List Server)) (hx : x1.length ≤ 1099511627776) (hN : x1.length < N) : laws_eqServerS_l1 N x1 x2 N 0 = laws_eqServerS_l1_r N x1 x2 x1 0 := laws_eqServerS_l1_rng N x1 x2 hx x1.length 0 N (by omega) hN
def laws_eqServerS (N : Nat) (x1 : (List Server)) (x2 : (List Server)) : Option (Bool) :=
 (if ((x1.length : Int) != (x2.length : Int)) = true then
 some false
 else
 joinP (fun (v219 : Unit) =>
 some true) fun j219 =>
 (laws_eqServerS_l1 N x1 x2 N 0).bind (Sum.elim (fun v239 => some v239) (fun (v240 : Unit) => j219 ())))
theorem sem_laws_eqServerS (N : Nat) (x1 : (List Server)) (x2 : (List Server)) (r : Bool) (h : laws_eqServerS N x1 x2 = some r) : Says Tryz.prog 26 [RO 119 (x1.map (encServer false)),RO 119 (x2.map (encServer false))] 0 [] (VB r) [] := by
 unfold laws_eqServerS at h
 refine Says.of_norm e Tryz.call26 e fun B hB => ?_
 have hm : B.m ≤ 1000 := by omega
 refine Run.so hm (.p e (.nil (.seq (.so hm (.p e (.z 5112 (Ev.lnF e) e e (.p e (.z 5144 (Ev.lnF e) e e (.p e (.nil (.condO e h (fun g180 h => ?_) (fun g180 h => ?_))))))))))))
 ·refine Run.so hm (.p e (.nil (.ret ?_)))
  obtain rfl := someO h
  exact Ends.mkG (.inl e) e (gh_pk [0] [] hB e e e e) e e
 ·refine Run.skip (.seqO h (fun v219 => []) (fun (v219 : Unit) => []) (fun h => ?_) (fun v219 h => ?_))
  ·refine Run.so hm (.p e (.nil (.block ?_)))
   obtain ⟨res240,h,hk240⟩ := bindO h
   refine Run.loop (n := N) (fun m240 fr σ => ∃ (x222 : Int),laws_eqServerS_l1 N x1 x2 m240 x222 = some res240 ∧ fr = [(0,RO 119 (x1.map (encServer false))),(1,RO 119 (x2.map (encServer false))),(5,VI x222)] ∧ σ = []) (gh_pk [0,1,5] [] hB e e e e) ⟨_,h,e,e⟩ ?_
   rintro m240 fr σ ⟨x222,h,rfl,rfl⟩
   obtain _ | m240 := m240
   ·rw [laws_eqServerS_l1] at h; cases h
   rw [laws_eqServerS_l1] at h
   refine Run.seq (.so hm (.p2 e e (.z 17416 (Ev.lnF e) e e (.p e (.nil (.condO e h (fun g243 h => ?_) (fun g243 h => ?_)))))))
   ·refine Run.skip (.seq (.block (.seq (.draw hm hmix (.p e (.p e ?_))))))
    obtain ⟨x254,hx254,h⟩ := bindO h
    refine OpsD.z 25608 (Ev.iaF e e hx254) e e (.p e (.p e (.p e ?_)))
    obtain ⟨x255,hx255,h⟩ := bindO h
    refine OpsD.z 25672 (Ev.iaF e e hx255) e e (.p e ?_)
    obtain ⟨y256,hy256,h⟩ := bindO h
    refine OpsD.z 25704 (Ev.call [] [] 0 (sem_laws_eqServer _ _ _ _ hy256) e e (.cons (.agg (.d4 (.d4 (.d4 (.d4 (.d4 (.d4 (.d1 .nil)))))))) (.cons (.agg (.d4 (.d4 (.d4 (.d4 (.d4 (.d4 (.d1 .nil)))))))) .nil)) e (.inl e) e e) e e (.p e (.nil ⟨by kernel_rfl,?_⟩))
    refine Run.condO e h (fun g257 h => ?_) (fun g257 h => ?_)
    ·refine Run.so hm (.p e (.nil (.ret ?_)))
     obtain rfl := someO h
     have h := hk240
     replace h := inlO h
     obtain rfl := someO h
     exact Ends.mkG (.inl e) e (gh_pk [0] [] hB e e e e) e e
    ·exact Run.skip (.ops hm (.p3 e e e (.nil (⟨m240,Nat.lt_succ_self m240,_,_,(gh_pk [0,1,5] [] hB e e e e),_,h,e,e⟩))))
   ·refine Run.exit ?_
    obtain rfl := someO h
    have h := hk240
    replace h := inrO h
    exact ⟨_,_,(gh_pk [] [] hB e e e e),(),h,e,e⟩
  ·refine Run.so hm (.p e (.nil (.ret ?_)))
   obtain rfl := someO h
   exact Ends.mkG (.inl e) e (gh_pk [0] [] hB e e e e) e e
def laws_eqMessage (N : Nat) (x1 : Message) (x2 : Message) : Option (Bool) :=
 (if (x1.Kind != x2.Kind) = true then
 some false
 else
 (if (x1.From != x2.From) = true then
 some false
 else
 (if (x1.To != x2.To) = true then
 some false
 else
 (if (x1.Term != x2.Term) = true then
 some false
 else
 (if (x1.Index != x2.Index) = true then
 some false
 else
 (if (x1.LogTerm != x2.LogTerm) = true then
 some false
 else
 (if (x1.Commit != x2.Commit) = true then
 some false
 else
 (if ((x1.Ok == x2.Ok) ^^ true) = true then
 some false
 else
 (laws_eqEntryS N x1.Entries x2.Entries).bind fun y151 =>
 (if (!y151) = true then
 some false
 else
 (laws_eqIntS N x1.Conf x2.Conf).bind fun y157 =>
 (if (!y157) = true then
 some false
 else
 (if (!decide (x1.Data = x2.Data)) = true then
 some false
 else
 (if ((x1.Last == x2.Last) ^^ true) = true then
 some false
 else
 some true))))))))))))
theorem sem_laws_eqMessage (N : Nat) (x1 : Message) (x2 : Message) (r : Bool) (h : laws_eqMessage N x1 x2 = some r) : Says Tryz.prog 46 [.agg [VI x1.Kind,VI x1.From,VI x1.To,VI x1.Term,VI x1.Index,VI x1.LogTerm,VI x1.Commit,VB x1.Ok,RO 131 (x1.Entries.map encEntry),RO 3 (x1.Conf.map encI),VS x1.Data,VB x1.Last],.agg [VI x2.Kind,VI x2.From,VI x2.To,VI x2.Term,VI x2.Index,VI x2.LogTerm,VI x2.Commit,VB x2.Ok,RO 131 (x2.Entries.map encEntry),RO 3 (x2.Conf.map encI),VS x2.Data,VB x2.Last]] 0 [] (VB r) [] := by
 unfold laws_eqMessage at h
 refine Says.of_norm e Tryz.call46 e fun B hB => ?_
 have hm : B.m ≤ 1000 := by omega
 refine Run.so hm (.z 1000 (.bx e e) e e (.z 1016 (.bx e e) e e (.p e (.nil (.seq (.so hm (.p3 e e e (.p2 e e (.nil (.condO e h (fun g132 h => ?_) (fun g132 h => ?_)))))))))))
 ·refine Run.so hm (.p e (.nil (.ret ?_)))
  obtain rfl := someO h
  exact Ends.mkG (.inl e) e (gh_pk [0] [] hB e e e e) e e
 ·refine Run.skip (.seq (.so hm (.p3 e e e (.p2 e e (.nil (.condO e h (fun g134 h => ?_) (fun g134 h => ?_)))))))
  ·refine Run.so hm (.p e (.nil (.ret ?_)))
   obtain rfl := someO h
   exact Ends.mkG (.inl e) e (gh_pk [0] [] hB e e e e) e e
  ·refine Run.skip (.seq (.so hm (.p3 e e e (.p2 e e (.nil (.condO e h (fun g136 h => ?_) (fun g136 h => ?_)))))))
   ·refine Run.so hm (.p e (.nil (.ret ?_)))
    obtain rfl := someO h
    exact Ends.mkG (.inl e) e (gh_pk [0] [] hB e e e e) e e
   ·refine Run.skip (.seq (.so hm (.p3 e e e (.p2 e e (.nil (.condO e h (fun g138 h => ?_) (fun g138 h => ?_)))))))
    ·refine Run.so hm (.p e (.nil (.ret ?_)))
     obtain rfl := someO h
     exact Ends.mkG (.inl e) e (gh_pk [0] [] hB e e e e) e e
    ·refine Run.skip (.seq (.so hm (.p3 e e e (.p2 e e (.nil (.condO e h (fun g140 h => ?_) (fun g140 h => ?_)))))))
     ·refine Run.so hm (.p e (.nil (.ret ?_)))
      obtain rfl := someO h
      exact Ends.mkG (.inl e) e (gh_pk [0] [] hB e e e e) e e
     ·refine Run.skip (.seq (.so hm (.p3 e e e (.p2 e e (.nil (.condO e h (fun g142 h => ?_) (fun g142 h => ?_)))))))
      ·refine Run.so hm (.p e (.nil (.ret ?_)))
       obtain rfl := someO h
       exact Ends.mkG (.inl e) e (gh_pk [0] [] hB e e e e) e e
      ·refine Run.skip (.seq (.so hm (.p3 e e e (.p2 e e (.nil (.condO e h (fun g144 h => ?_) (fun g144 h => ?_)))))))
       ·refine Run.so hm (.p e (.nil (.ret ?_)))
        obtain rfl := someO h
        exact Ends.mkG (.inl e) e (gh_pk [0] [] hB e e e e) e e
       ·refine Run.skip (.seq (.so hm (.p3 e e e (.p2 e e (.nil (.condO e h (fun g146 h => ?_) (fun g146 h => ?_)))))))
        ·refine Run.so hm (.p e (.nil (.ret ?_)))
         obtain rfl := someO h
         exact Ends.mkG (.inl e) e (gh_pk [0] [] hB e e e e) e e
        ·refine Run.skip (.seq (.so hm (.p3 e e e (.p e ?_))))
         obtain ⟨y151,hy151,h⟩ := bindO h
         refine Ops.z 70696 (Ev.call [] [] 0 (sem_laws_eqEntryS _ _ _ _ hy151) e e (.d2 .nil) e (.inl e) e e) e e (.p e (.nil (.condO e h (fun g152 h => ?_) (fun g152 h => ?_))))
         ·refine Run.so hm (.p e (.nil (.ret ?_)))
          obtain rfl := someO h
          exact Ends.mkG (.inl e) e (gh_pk [0] [] hB e e e e) e e
         ·refine Run.skip (.seq (.so hm (.p3 e e e (.p e ?_))))
          obtain ⟨y157,hy157,h⟩ := bindO h
          refine Ops.z 78888 (Ev.call [] [] 0 (sem_laws_eqIntS _ _ _ _ hy157) e e (.d2 .nil) e (.inl e) e e) e e (.p e (.nil (.condO e h (fun g158 h => ?_) (fun g158 h => ?_))))
          ·refine Run.so hm (.p e (.nil (.ret ?_)))
           obtain rfl := someO h
           exact Ends.mkG (.inl e) e (gh_pk [0] [] hB e e e e) e e
          ·refine Run.skip (.seq (.so hm (.p3 e e e (.p2 e e (.nil (.condO e h (fun g160 h => ?_) (fun g160 h => ?_)))))))
           ·refine Run.so hm (.p e (.nil (.ret ?_)))
            obtain rfl := someO h
            exact Ends.mkG (.inl e) e (gh_pk [0] [] hB e e e e) e e
           ·refine Run.skip (.seq (.so hm (.p3 e e e (.p2 e e (.nil (.condO e h (fun g161 h => ?_) (fun g161 h => ?_)))))))
            ·refine Run.so hm (.p e (.nil (.ret ?_)))
             obtain rfl := someO h
             exact Ends.mkG (.inl e) e (gh_pk [0] [] hB e e e e) e e
            ·refine Run.skip (.so hm (.p e (.nil (.ret ?_))))
             obtain rfl := someO h
             exact Ends.mkG (.inl e) e (gh_pk [0] [] hB e e e e) e e
def laws_eqMessageS_l1 (N : Nat) (x1 : (List Message)) (x2 : (List Message)) : Nat → Int → Option ((Bool) ⊕ (Unit))
 | 0,_ => none
 | m + 1,x222 =>
 (if (decide (x222 < (x1.length : Int))) = true then
 (at? x1 x222).bind fun x254 =>
 (at? x2 x222).bind fun x255 =>
 (laws_eqMessage N x254 x255).bind fun y256 =>
 (if (!y256) = true then
 some (Sum.inl false)
 else
 laws_eqMessageS_l1 N x1 x2 m (w64 (x222 + 1)))
 else
 some (Sum.inr ()))
def laws_eqMessageS_l1_r (N : Nat) (x1 : (List Message)) (x2 : (List Message)) : (List Message) → Int → Option ((Bool) ⊕ (Unit))
 | [],x222 =>
 some (Sum.inr ())
 | hd :: tl,x222 =>
 (some hd).bind fun x254 =>
 (at? x2 x222).bind fun x255 =>
 (laws_eqMessage N x254 x255).bind fun y256 =>
 (if (!y256) = true then
 some (Sum.inl false)
 else
 laws_eqMessageS_l1_r N x1 x2 tl (w64 (x222 + 1)))
theorem laws_eqMessageS_l1_rng (N : Nat) (x1 : (List Message)) (x2 : (List Message)) (hx : x1.length ≤ 1099511627776) : ∀ (d k m : Nat),x1.length = k + d → d < m → laws_eqMessageS_l1 N x1 x2 m (k : Int) = laws_eqMessageS_l1_r N x1 x2 (x1.drop k) (k : Int) := by
 intro d
 induction d with
 | zero =>
  intro k m hd hm
  obtain ⟨m,rfl⟩ : ∃ q,m = q + 1 := ⟨m - 1,by omega⟩
  rw [laws_eqMessageS_l1,if_neg (by simp; omega),List.drop_eq_nil_of_le (by omega),laws_eqMessageS_l1_r]
 | succ d ih =>
  intro k m hd hm
  obtain ⟨m,rfl⟩ : ∃ q,m = q + 1 := ⟨m - 1,by omega⟩
  have hk : k < x1.length := by omega
  rw [laws_eqMessageS_l1,if_pos (by simp; omega),List.drop_eq_getElem_cons hk,laws_eqMessageS_l1_r]
  have h1 := at_lt hk
  have h2 := w64_succ (k := k) (by omega)
  have h3 := ih (k + 1) m
  simp only [h1,h2,h3 (by omega) (by omega)]
theorem laws_eqMessageS_l1_eq {N : Nat} (x1 : (List Message)) (x2 : (List Message)) (hx : x1.length ≤ 1099511627776) (hN : x1.length < N) : laws_eqMessageS_l1 N x1 x2 N 0 = laws_eqMessageS_l1_r N x1 x2 x1 0 := laws_eqMessageS_l1_rng N x1 x2 hx x1.length 0 N (by omega) hN
def laws_eqMessageS (N : Nat) (x1 : (List Message)) (x2 : (List Message)) : Option (Bool) :=
 (if ((x1.length : Int) != (x2.length : Int)) = true then
 some false
 else
 joinP (fun (v219 : Unit) =>
 some true) fun j219 =>
 (laws_eqMessageS_l1 N x1 x2 N 0).bind (Sum.elim (fun v239 => some v239) (fun (v240 : Unit) => j219 ())))
theorem sem_laws_eqMessageS (N : Nat) (x1 : (List Message)) (x2 : (List Message)) (r : Bool) (h : laws_eqMessageS N x1 x2 = some r) : Says Tryz.prog 27 [RO 122 (x1.map (encMessage false)),RO 122 (x2.map (encMessage false))] 0 [] (VB r) [] := by
 unfold laws_eqMessageS at h
 refine Says.of_norm e Tryz.call27 e fun B hB => ?_
 have hm : B.m ≤ 1000 := by omega
 refine Run.so hm (.p e (.nil (.seq (.so hm (.p e (.z 5112 (Ev.lnF e) e e (.p e (.z 5144 (Ev.lnF e) e e (.p e (.nil (.condO e h (fun g180 h => ?_) (fun g180 h => ?_))))))))))))
 ·refine Run.so hm (.p e (.nil (.ret ?_)))
  obtain rfl := someO h
  exact Ends.mkG (.inl e) e (gh_pk [0] [] hB e e e e) e e
 ·refine Run.skip (.seqO h (fun v219 => []) (fun (v219 : Unit) => []) (fun h => ?_) (fun v219 h => ?_))
  ·refine Run.so hm (.p e (.nil (.block ?_)))
   obtain ⟨res240,h,hk240⟩ := bindO h
   refine Run.loop (n := N) (fun m240 fr σ => ∃ (x222 : Int),laws_eqMessageS_l1 N x1 x2 m240 x222 = some res240 ∧ fr = [(0,RO 122 (x1.map (encMessage false))),(1,RO 122 (x2.map (encMessage false))),(5,VI x222)] ∧ σ = []) (gh_pk [0,1,5] [] hB e e e e) ⟨_,h,e,e⟩ ?_
   rintro m240 fr σ ⟨x222,h,rfl,rfl⟩
   obtain _ | m240 := m240
   ·rw [laws_eqMessageS_l1] at h; cases h
   rw [laws_eqMessageS_l1] at h
   refine Run.seq (.so hm (.p2 e e (.z 17416 (Ev.lnF e) e e (.p e (.nil (.condO e h (fun g243 h => ?_) (fun g243 h => ?_)))))))
   ·refine Run.skip (.seq (.block (.seq (.draw hm hmix (.p e (.p e ?_))))))
    obtain ⟨x254,hx254,h⟩ := bindO h
    refine OpsD.z 25608 (Ev.iaF e e hx254) e e (.p e (.p e (.p e ?_)))
    obtain ⟨x255,hx255,h⟩ := bindO h
    refine OpsD.z 25672 (Ev.iaF e e hx255) e e (.p e ?_)
    obtain ⟨y256,hy256,h⟩ := bindO h
    refine OpsD.z 25704 (Ev.call [] [] 0 (sem_laws_eqMessage _ _ _ _ hy256) e e (.cons (.agg (.d4 (.d4 (.d4 .nil)))) (.cons (.agg (.d4 (.d4 (.d4 .nil)))) .nil)) e (.inl e) e e) e e (.p e (.nil ⟨by kernel_rfl,?_⟩))
    refine Run.condO e h (fun g257 h => ?_) (fun g257 h => ?_)
    ·refine Run.so hm (.p e (.nil (.ret ?_)))
     obtain rfl := someO h
     have h := hk240
     replace h := inlO h
     obtain rfl := someO h
     exact Ends.mkG (.inl e) e (gh_pk [0] [] hB e e e e) e e
    ·exact Run.skip (.ops hm (.p3 e e e (.nil (⟨m240,Nat.lt_succ_self m240,_,_,(gh_pk [0,1,5] [] hB e e e e),_,h,e,e⟩))))
   ·refine Run.exit ?_
    obtain rfl := someO h
    have h := hk240
    replace h := inrO h
    exact ⟨_,_,(gh_pk [] [] hB e e e e),(),h,e,e⟩
  ·refine Run.so hm (.p e (.nil (.ret ?_)))
   obtain rfl := someO h
   exact Ends.mkG (.inl e) e (gh_pk [0] [] hB e e e e) e e
def laws_eqWait (N : Nat) (x1 : Wait) (x2 : Wait) : Option (Bool) :=
 (if (x1.Node != x2.Node) = true then
 some false
 else
 (if (x1.Index != x2.Index) = true then
 some false
 else
 (if (x1.Term != x2.Term) = true then
 some false
 else
 (if (x1.Call != x2.Call) = true then
 some false
 else
 some true))))
theorem sem_laws_eqWait (N : Nat) (x1 : Wait) (x2 : Wait) (r : Bool) (h : laws_eqWait N x1 x2 = some r) : Says Tryz.prog 47 [.agg [VI x1.Node,VI x1.Index,VI x1.Term,VI x1.Call],.agg [VI x2.Node,VI x2.Index,VI x2.Term,VI x2.Call]] 0 [] (VB r) [] := by
 unfold laws_eqWait at h
 refine Says.of_norm e Tryz.call47 e fun B hB => ?_
 have hm : B.m ≤ 1000 := by omega
 refine Run.so hm (.z 1000 (.bx e e) e e (.z 1016 (.bx e e) e e (.p e (.nil (.seq (.so hm (.p3 e e e (.p2 e e (.nil (.condO e h (fun g108 h => ?_) (fun g108 h => ?_)))))))))))
 ·refine Run.so hm (.p e (.nil (.ret ?_)))
  obtain rfl := someO h
  exact Ends.mkG (.inl e) e (gh_pk [0] [] hB e e e e) e e
 ·refine Run.skip (.seq (.so hm (.p3 e e e (.p2 e e (.nil (.condO e h (fun g110 h => ?_) (fun g110 h => ?_)))))))
  ·refine Run.so hm (.p e (.nil (.ret ?_)))
   obtain rfl := someO h
   exact Ends.mkG (.inl e) e (gh_pk [0] [] hB e e e e) e e
  ·refine Run.skip (.seq (.so hm (.p3 e e e (.p2 e e (.nil (.condO e h (fun g112 h => ?_) (fun g112 h => ?_)))))))
   ·refine Run.so hm (.p e (.nil (.ret ?_)))
    obtain rfl := someO h
    exact Ends.mkG (.inl e) e (gh_pk [0] [] hB e e e e) e e
   ·refine Run.skip (.seq (.so hm (.p3 e e e (.p2 e e (.nil (.condO e h (fun g113 h => ?_) (fun g113 h => ?_)))))))
    ·refine Run.so hm (.p e (.nil (.ret ?_)))
     obtain rfl := someO h
     exact Ends.mkG (.inl e) e (gh_pk [0] [] hB e e e e) e e
    ·refine Run.skip (.so hm (.p e (.nil (.ret ?_))))
     obtain rfl := someO h
     exact Ends.mkG (.inl e) e (gh_pk [0] [] hB e e e e) e e
def laws_eqWaitS_l1 (N : Nat) (x1 : (List Wait)) (x2 : (List Wait)) : Nat → Int → Option ((Bool) ⊕ (Unit))
 | 0,_ => none
 | m + 1,x222 =>
 (if (decide (x222 < (x1.length : Int))) = true then
 (at? x1 x222).bind fun x254 =>
 (at? x2 x222).bind fun x255 =>
 (laws_eqWait N x254 x255).bind fun y256 =>
 (if (!y256) = true then
 some (Sum.inl false)
 else
 laws_eqWaitS_l1 N x1 x2 m (w64 (x222 + 1)))
 else
 some (Sum.inr ()))
def laws_eqWaitS_l1_r (N : Nat) (x1 : (List Wait)) (x2 : (List Wait)) : (List Wait) → Int → Option ((Bool) ⊕ (Unit))
 | [],x222 =>
 some (Sum.inr ())
 | hd :: tl,x222 =>
 (some hd).bind fun x254 =>
 (at? x2 x222).bind fun x255 =>
 (laws_eqWait N x254 x255).bind fun y256 =>
 (if (!y256) = true then
 some (Sum.inl false)
 else
 laws_eqWaitS_l1_r N x1 x2 tl (w64 (x222 + 1)))
theorem laws_eqWaitS_l1_rng (N : Nat) (x1 : (List Wait)) (x2 : (List Wait)) (hx : x1.length ≤ 1099511627776) : ∀ (d k m : Nat),x1.length = k + d → d < m → laws_eqWaitS_l1 N x1 x2 m (k : Int) = laws_eqWaitS_l1_r N x1 x2 (x1.drop k) (k : Int) := by
 intro d
 induction d with
 | zero =>
  intro k m hd hm
  obtain ⟨m,rfl⟩ : ∃ q,m = q + 1 := ⟨m - 1,by omega⟩
  rw [laws_eqWaitS_l1,if_neg (by simp; omega),List.drop_eq_nil_of_le (by omega),laws_eqWaitS_l1_r]
 | succ d ih =>
  intro k m hd hm
  obtain ⟨m,rfl⟩ : ∃ q,m = q + 1 := ⟨m - 1,by omega⟩
  have hk : k < x1.length := by omega
  rw [laws_eqWaitS_l1,if_pos (by simp; omega),List.drop_eq_getElem_cons hk,laws_eqWaitS_l1_r]
  have h1 := at_lt hk
  have h2 := w64_succ (k := k) (by omega)
  have h3 := ih (k + 1) m
  simp only [h1,h2,h3 (by omega) (by omega)]
theorem laws_eqWaitS_l1_eq {N : Nat} (x1 : (List Wait)) (x2 : (List Wait)) (hx : x1.length ≤ 1099511627776) (hN : x1.length < N) : laws_eqWaitS_l1 N x1 x2 N 0 = laws_eqWaitS_l1_r N x1 x2 x1 0 := laws_eqWaitS_l1_rng N x1 x2 hx x1.length 0 N (by omega) hN
def laws_eqWaitS (N : Nat) (x1 : (List Wait)) (x2 : (List Wait)) : Option (Bool) :=
 (if ((x1.length : Int) != (x2.length : Int)) = true then
 some false
 else
 joinP (fun (v219 : Unit) =>
 some true) fun j219 =>
 (laws_eqWaitS_l1 N x1 x2 N 0).bind (Sum.elim (fun v239 => some v239) (fun (v240 : Unit) => j219 ())))
theorem sem_laws_eqWaitS (N : Nat) (x1 : (List Wait)) (x2 : (List Wait)) (r : Bool) (h : laws_eqWaitS N x1 x2 = some r) : Says Tryz.prog 28 [RO 125 (x1.map encWait),RO 125 (x2.map encWait)] 0 [] (VB r) [] := by
 unfold laws_eqWaitS at h
 refine Says.of_norm e Tryz.call28 e fun B hB => ?_
 have hm : B.m ≤ 1000 := by omega
 refine Run.so hm (.p e (.nil (.seq (.so hm (.p e (.z 5112 (Ev.lnF e) e e (.p e (.z 5144 (Ev.lnF e) e e (.p e (.nil (.condO e h (fun g180 h => ?_) (fun g180 h => ?_))))))))))))
 ·refine Run.so hm (.p e (.nil (.ret ?_)))
  obtain rfl := someO h
  exact Ends.mkG (.inl e) e (gh_pk [0] [] hB e e e e) e e
 ·refine Run.skip (.seqO h (fun v219 => []) (fun (v219 : Unit) => []) (fun h => ?_) (fun v219 h => ?_))
  ·refine Run.so hm (.p e (.nil (.block ?_)))
   obtain ⟨res240,h,hk240⟩ := bindO h
   refine Run.loop (n := N) (fun m240 fr σ => ∃ (x222 : Int),laws_eqWaitS_l1 N x1 x2 m240 x222 = some res240 ∧ fr = [(0,RO 125 (x1.map encWait)),(1,RO 125 (x2.map encWait)),(5,VI x222)] ∧ σ = []) (gh_pk [0,1,5] [] hB e e e e) ⟨_,h,e,e⟩ ?_
   rintro m240 fr σ ⟨x222,h,rfl,rfl⟩
   obtain _ | m240 := m240
   ·rw [laws_eqWaitS_l1] at h; cases h
   rw [laws_eqWaitS_l1] at h
   refine Run.seq (.so hm (.p2 e e (.z 17416 (Ev.lnF e) e e (.p e (.nil (.condO e h (fun g243 h => ?_) (fun g243 h => ?_)))))))
   ·refine Run.skip (.seq (.block (.seq (.draw hm hmix (.p e (.p e ?_))))))
    obtain ⟨x254,hx254,h⟩ := bindO h
    refine OpsD.z 25608 (Ev.iaF e e hx254) e e (.p e (.p e (.p e ?_)))
    obtain ⟨x255,hx255,h⟩ := bindO h
    refine OpsD.z 25672 (Ev.iaF e e hx255) e e (.p e ?_)
    obtain ⟨y256,hy256,h⟩ := bindO h
    refine OpsD.z 25704 (Ev.call [] [] 0 (sem_laws_eqWait _ _ _ _ hy256) e e (.cons (.agg (.d4 .nil)) (.cons (.agg (.d4 .nil)) .nil)) e (.inl e) e e) e e (.p e (.nil ⟨by kernel_rfl,?_⟩))
    refine Run.condO e h (fun g257 h => ?_) (fun g257 h => ?_)
    ·refine Run.so hm (.p e (.nil (.ret ?_)))
     obtain rfl := someO h
     have h := hk240
     replace h := inlO h
     obtain rfl := someO h
     exact Ends.mkG (.inl e) e (gh_pk [0] [] hB e e e e) e e
    ·exact Run.skip (.ops hm (.p3 e e e (.nil (⟨m240,Nat.lt_succ_self m240,_,_,(gh_pk [0,1,5] [] hB e e e e),_,h,e,e⟩))))
   ·refine Run.exit ?_
    obtain rfl := someO h
    have h := hk240
    replace h := inrO h
    exact ⟨_,_,(gh_pk [] [] hB e e e e),(),h,e,e⟩
  ·refine Run.so hm (.p e (.nil (.ret ?_)))
   obtain rfl := someO h
   exact Ends.mkG (.inl e) e (gh_pk [0] [] hB e e e e) e e
def laws_eqLeader (N : Nat) (x1 : Leader) (x2 : Leader) : Option (Bool) :=
 (if (x1.Node != x2.Node) = true then
 some false
 else
 (if (x1.Term != x2.Term) = true then
 some false
 else
 (laws_eqLog N x1.Log x2.Log).bind fun y112 =>
 (if (!y112) = true then
 some false
 else
 some true)))
theorem sem_laws_eqLeader (N : Nat) (x1 : Leader) (x2 : Leader) (r : Bool) (h : laws_eqLeader N x1 x2 = some r) : Says Tryz.prog 48 [.agg [VI x1.Node,VI x1.Term,VI x1.Log.Start,VI x1.Log.StartTerm,RO 131 (x1.Log.Entries.map encEntry)],.agg [VI x2.Node,VI x2.Term,VI x2.Log.Start,VI x2.Log.StartTerm,RO 131 (x2.Log.Entries.map encEntry)]] 0 [] (VB r) [] := by
 unfold laws_eqLeader at h
 refine Says.of_norm e Tryz.call48 e fun B hB => ?_
 have hm : B.m ≤ 1000 := by omega
 refine Run.so hm (.z 1000 (.bx e e) e e (.z 1016 (.bx e e) e e (.p e (.nil (.seq (.so hm (.p3 e e e (.p2 e e (.nil (.condO e h (fun g108 h => ?_) (fun g108 h => ?_)))))))))))
 ·refine Run.so hm (.p e (.nil (.ret ?_)))
  obtain rfl := someO h
  exact Ends.mkG (.inl e) e (gh_pk [0] [] hB e e e e) e e
 ·refine Run.skip (.seq (.so hm (.p3 e e e (.p2 e e (.nil (.condO e h (fun g110 h => ?_) (fun g110 h => ?_)))))))
  ·refine Run.so hm (.p e (.nil (.ret ?_)))
   obtain rfl := someO h
   exact Ends.mkG (.inl e) e (gh_pk [0] [] hB e e e e) e e
  ·refine Run.skip (.seq (.so hm (.p3 e e e (.p e ?_))))
   obtain ⟨y112,hy112,h⟩ := bindO h
   refine Ops.z 21544 (Ev.call [] [] 0 (sem_laws_eqLog _ _ _ _ hy112) e e (.cons (.agg (.d2 (.d1 .nil))) (.cons (.agg (.d2 (.d1 .nil))) .nil)) e (.inl e) e e) e e (.p e (.nil (.condO e h (fun g113 h => ?_) (fun g113 h => ?_))))
   ·refine Run.so hm (.p e (.nil (.ret ?_)))
    obtain rfl := someO h
    exact Ends.mkG (.inl e) e (gh_pk [0] [] hB e e e e) e e
   ·refine Run.skip (.so hm (.p e (.nil (.ret ?_))))
    obtain rfl := someO h
    exact Ends.mkG (.inl e) e (gh_pk [0] [] hB e e e e) e e
def laws_eqLeaderS_l1 (N : Nat) (x1 : (List Leader)) (x2 : (List Leader)) : Nat → Int → Option ((Bool) ⊕ (Unit))
 | 0,_ => none
 | m + 1,x222 =>
 (if (decide (x222 < (x1.length : Int))) = true then
 (at? x1 x222).bind fun x254 =>
 (at? x2 x222).bind fun x255 =>
 (laws_eqLeader N x254 x255).bind fun y256 =>
 (if (!y256) = true then
 some (Sum.inl false)
 else
 laws_eqLeaderS_l1 N x1 x2 m (w64 (x222 + 1)))
 else
 some (Sum.inr ()))
def laws_eqLeaderS_l1_r (N : Nat) (x1 : (List Leader)) (x2 : (List Leader)) : (List Leader) → Int → Option ((Bool) ⊕ (Unit))
 | [],x222 =>
 some (Sum.inr ())
 | hd :: tl,x222 =>
 (some hd).bind fun x254 =>
 (at? x2 x222).bind fun x255 =>
 (laws_eqLeader N x254 x255).bind fun y256 =>
 (if (!y256) = true then
 some (Sum.inl false)
 else
 laws_eqLeaderS_l1_r N x1 x2 tl (w64 (x222 + 1)))
theorem laws_eqLeaderS_l1_rng (N : Nat) (x1 : (List Leader)) (x2 : (List Leader)) (hx : x1.length ≤ 1099511627776) : ∀ (d k m : Nat),x1.length = k + d → d < m → laws_eqLeaderS_l1 N x1 x2 m (k : Int) = laws_eqLeaderS_l1_r N x1 x2 (x1.drop k) (k : Int) := by
 intro d
 induction d with
 | zero =>
  intro k m hd hm
  obtain ⟨m,rfl⟩ : ∃ q,m = q + 1 := ⟨m - 1,by omega⟩
  rw [laws_eqLeaderS_l1,if_neg (by simp; omega),List.drop_eq_nil_of_le (by omega),laws_eqLeaderS_l1_r]
 | succ d ih =>
  intro k m hd hm
  obtain ⟨m,rfl⟩ : ∃ q,m = q + 1 := ⟨m - 1,by omega⟩
  have hk : k < x1.length := by omega
  rw [laws_eqLeaderS_l1,if_pos (by simp; omega),List.drop_eq_getElem_cons hk,laws_eqLeaderS_l1_r]
  have h1 := at_lt hk
  have h2 := w64_succ (k := k) (by omega)
  have h3 := ih (k + 1) m
  simp only [h1,h2,h3 (by omega) (by omega)]
theorem laws_eqLeaderS_l1_eq {N : Nat} (x1 : (List Leader)) (x2 : (List Leader)) (hx : x1.length ≤ 1099511627776) (hN : x1.length < N) : laws_eqLeaderS_l1 N x1 x2 N 0 = laws_eqLeaderS_l1_r N x1 x2 x1 0 := laws_eqLeaderS_l1_rng N x1 x2 hx x1.length 0 N (by omega) hN
def laws_eqLeaderS (N : Nat) (x1 : (List Leader)) (x2 : (List Leader)) : Option (Bool) :=
 (if ((x1.length : Int) != (x2.length : Int)) = true then
 some false
 else
 joinP (fun (v219 : Unit) =>
 some true) fun j219 =>
 (laws_eqLeaderS_l1 N x1 x2 N 0).bind (Sum.elim (fun v239 => some v239) (fun (v240 : Unit) => j219 ())))
theorem sem_laws_eqLeaderS (N : Nat) (x1 : (List Leader)) (x2 : (List Leader)) (r : Bool) (h : laws_eqLeaderS N x1 x2 = some r) : Says Tryz.prog 29 [RO 129 (x1.map (encLeader false)),RO 129 (x2.map (encLeader false))] 0 [] (VB r) [] := by
 unfold laws_eqLeaderS at h
 refine Says.of_norm e Tryz.call29 e fun B hB => ?_
 have hm : B.m ≤ 1000 := by omega
 refine Run.so hm (.p e (.nil (.seq (.so hm (.p e (.z 5112 (Ev.lnF e) e e (.p e (.z 5144 (Ev.lnF e) e e (.p e (.nil (.condO e h (fun g180 h => ?_) (fun g180 h => ?_))))))))))))
 ·refine Run.so hm (.p e (.nil (.ret ?_)))
  obtain rfl := someO h
  exact Ends.mkG (.inl e) e (gh_pk [0] [] hB e e e e) e e
 ·refine Run.skip (.seqO h (fun v219 => []) (fun (v219 : Unit) => []) (fun h => ?_) (fun v219 h => ?_))
  ·refine Run.so hm (.p e (.nil (.block ?_)))
   obtain ⟨res240,h,hk240⟩ := bindO h
   refine Run.loop (n := N) (fun m240 fr σ => ∃ (x222 : Int),laws_eqLeaderS_l1 N x1 x2 m240 x222 = some res240 ∧ fr = [(0,RO 129 (x1.map (encLeader false))),(1,RO 129 (x2.map (encLeader false))),(5,VI x222)] ∧ σ = []) (gh_pk [0,1,5] [] hB e e e e) ⟨_,h,e,e⟩ ?_
   rintro m240 fr σ ⟨x222,h,rfl,rfl⟩
   obtain _ | m240 := m240
   ·rw [laws_eqLeaderS_l1] at h; cases h
   rw [laws_eqLeaderS_l1] at h
   refine Run.seq (.so hm (.p2 e e (.z 17416 (Ev.lnF e) e e (.p e (.nil (.condO e h (fun g243 h => ?_) (fun g243 h => ?_)))))))
   ·refine Run.skip (.seq (.block (.seq (.draw hm hmix (.p e (.p e ?_))))))
    obtain ⟨x254,hx254,h⟩ := bindO h
    refine OpsD.z 25608 (Ev.iaF e e hx254) e e (.p e (.p e (.p e ?_)))
    obtain ⟨x255,hx255,h⟩ := bindO h
    refine OpsD.z 25672 (Ev.iaF e e hx255) e e (.p e ?_)
    obtain ⟨y256,hy256,h⟩ := bindO h
    refine OpsD.z 25704 (Ev.call [] [] 0 (sem_laws_eqLeader _ _ _ _ hy256) e e (.cons (.agg (.d4 (.d1 .nil))) (.cons (.agg (.d4 (.d1 .nil))) .nil)) e (.inl e) e e) e e (.p e (.nil ⟨by kernel_rfl,?_⟩))
    refine Run.condO e h (fun g257 h => ?_) (fun g257 h => ?_)
    ·refine Run.so hm (.p e (.nil (.ret ?_)))
     obtain rfl := someO h
     have h := hk240
     replace h := inlO h
     obtain rfl := someO h
     exact Ends.mkG (.inl e) e (gh_pk [0] [] hB e e e e) e e
    ·exact Run.skip (.ops hm (.p3 e e e (.nil (⟨m240,Nat.lt_succ_self m240,_,_,(gh_pk [0,1,5] [] hB e e e e),_,h,e,e⟩))))
   ·refine Run.exit ?_
    obtain rfl := someO h
    have h := hk240
    replace h := inrO h
    exact ⟨_,_,(gh_pk [] [] hB e e e e),(),h,e,e⟩
  ·refine Run.so hm (.p e (.nil (.ret ?_)))
   obtain rfl := someO h
   exact Ends.mkG (.inl e) e (gh_pk [0] [] hB e e e e) e e
def laws_eqApplied (N : Nat) (x1 : Applied) (x2 : Applied) : Option (Bool) :=
 (if (x1.Node != x2.Node) = true then
 some false
 else
 (if (x1.Term != x2.Term) = true then
 some false
 else
 (if (x1.Index != x2.Index) = true then
 some false
 else
 (laws_eqEntry N x1.Entry x2.Entry).bind fun y116 =>
 (if (!y116) = true then
 some false
 else
 some true))))
theorem sem_laws_eqApplied (N : Nat) (x1 : Applied) (x2 : Applied) (r : Bool) (h : laws_eqApplied N x1 x2 = some r) : Says Tryz.prog 49 [.agg [VI x1.Node,VI x1.Term,VI x1.Index,VI x1.Entry.Term,VI x1.Entry.Kind,VS x1.Entry.Data],.agg [VI x2.Node,VI x2.Term,VI x2.Index,VI x2.Entry.Term,VI x2.Entry.Kind,VS x2.Entry.Data]] 0 [] (VB r) [] := by
 unfold laws_eqApplied at h
 refine Says.of_norm e Tryz.call49 e fun B hB => ?_
 have hm : B.m ≤ 1000 := by omega
 refine Run.so hm (.z 1000 (.bx e e) e e (.z 1016 (.bx e e) e e (.p e (.nil (.seq (.so hm (.p3 e e e (.p2 e e (.nil (.condO e h (fun g110 h => ?_) (fun g110 h => ?_)))))))))))
 ·refine Run.so hm (.p e (.nil (.ret ?_)))
  obtain rfl := someO h
  exact Ends.mkG (.inl e) e (gh_pk [0] [] hB e e e e) e e
 ·refine Run.skip (.seq (.so hm (.p3 e e e (.p2 e e (.nil (.condO e h (fun g112 h => ?_) (fun g112 h => ?_)))))))
  ·refine Run.so hm (.p e (.nil (.ret ?_)))
   obtain rfl := someO h
   exact Ends.mkG (.inl e) e (gh_pk [0] [] hB e e e e) e e
  ·refine Run.skip (.seq (.so hm (.p3 e e e (.p2 e e (.nil (.condO e h (fun g114 h => ?_) (fun g114 h => ?_)))))))
   ·refine Run.so hm (.p e (.nil (.ret ?_)))
    obtain rfl := someO h
    exact Ends.mkG (.inl e) e (gh_pk [0] [] hB e e e e) e e
   ·refine Run.skip (.seq (.so hm (.p3 e e e (.p e ?_))))
    obtain ⟨y116,hy116,h⟩ := bindO h
    refine Ops.z 29736 (Ev.call [] [] 0 (sem_laws_eqEntry _ _ _ _ hy116) e e (.cons (.agg (.d2 (.d1 .nil))) (.cons (.agg (.d2 (.d1 .nil))) .nil)) e (.inl e) e e) e e (.p e (.nil (.condO e h (fun g117 h => ?_) (fun g117 h => ?_))))
    ·refine Run.so hm (.p e (.nil (.ret ?_)))
     obtain rfl := someO h
     exact Ends.mkG (.inl e) e (gh_pk [0] [] hB e e e e) e e
    ·refine Run.skip (.so hm (.p e (.nil (.ret ?_))))
     obtain rfl := someO h
     exact Ends.mkG (.inl e) e (gh_pk [0] [] hB e e e e) e e
def laws_eqAppliedS_l1 (N : Nat) (x1 : (List Applied)) (x2 : (List Applied)) : Nat → Int → Option ((Bool) ⊕ (Unit))
 | 0,_ => none
 | m + 1,x222 =>
 (if (decide (x222 < (x1.length : Int))) = true then
 (at? x1 x222).bind fun x254 =>
 (at? x2 x222).bind fun x255 =>
 (laws_eqApplied N x254 x255).bind fun y256 =>
 (if (!y256) = true then
 some (Sum.inl false)
 else
 laws_eqAppliedS_l1 N x1 x2 m (w64 (x222 + 1)))
 else
 some (Sum.inr ()))
def laws_eqAppliedS_l1_r (N : Nat) (x1 : (List Applied)) (x2 : (List Applied)) : (List Applied) → Int → Option ((Bool) ⊕ (Unit))
 | [],x222 =>
 some (Sum.inr ())
 | hd :: tl,x222 =>
 (some hd).bind fun x254 =>
 (at? x2 x222).bind fun x255 =>
 (laws_eqApplied N x254 x255).bind fun y256 =>
 (if (!y256) = true then
 some (Sum.inl false)
 else
 laws_eqAppliedS_l1_r N x1 x2 tl (w64 (x222 + 1)))
theorem laws_eqAppliedS_l1_rng (N : Nat) (x1 : (List Applied)) (x2 : (List Applied)) (hx : x1.length ≤ 1099511627776) : ∀ (d k m : Nat),x1.length = k + d → d < m → laws_eqAppliedS_l1 N x1 x2 m (k : Int) = laws_eqAppliedS_l1_r N x1 x2 (x1.drop k) (k : Int) := by
 intro d
 induction d with
 | zero =>
  intro k m hd hm
  obtain ⟨m,rfl⟩ : ∃ q,m = q + 1 := ⟨m - 1,by omega⟩
  rw [laws_eqAppliedS_l1,if_neg (by simp; omega),List.drop_eq_nil_of_le (by omega),laws_eqAppliedS_l1_r]
 | succ d ih =>
  intro k m hd hm
  obtain ⟨m,rfl⟩ : ∃ q,m = q + 1 := ⟨m - 1,by omega⟩
  have hk : k < x1.length := by omega
  rw [laws_eqAppliedS_l1,if_pos (by simp; omega),List.drop_eq_getElem_cons hk,laws_eqAppliedS_l1_r]
  have h1 := at_lt hk
  have h2 := w64_succ (k := k) (by omega)
  have h3 := ih (k + 1) m
  simp only [h1,h2,h3 (by omega) (by omega)]
theorem laws_eqAppliedS_l1_eq {N : Nat} (x1 : (List Applied)) (x2 : (List Applied)) (hx : x1.length ≤ 1099511627776) (hN : x1.length < N) : laws_eqAppliedS_l1 N x1 x2 N 0 = laws_eqAppliedS_l1_r N x1 x2 x1 0 := laws_eqAppliedS_l1_rng N x1 x2 hx x1.length 0 N (by omega) hN
def laws_eqAppliedS (N : Nat) (x1 : (List Applied)) (x2 : (List Applied)) : Option (Bool) :=
 (if ((x1.length : Int) != (x2.length : Int)) = true then
 some false
 else
 joinP (fun (v219 : Unit) =>
 some true) fun j219 =>
 (laws_eqAppliedS_l1 N x1 x2 N 0).bind (Sum.elim (fun v239 => some v239) (fun (v240 : Unit) => j219 ())))
theorem sem_laws_eqAppliedS (N : Nat) (x1 : (List Applied)) (x2 : (List Applied)) (r : Bool) (h : laws_eqAppliedS N x1 x2 = some r) : Says Tryz.prog 30 [RO 133 (x1.map encApplied),RO 133 (x2.map encApplied)] 0 [] (VB r) [] := by
 unfold laws_eqAppliedS at h
 refine Says.of_norm e Tryz.call30 e fun B hB => ?_
 have hm : B.m ≤ 1000 := by omega
 refine Run.so hm (.p e (.nil (.seq (.so hm (.p e (.z 5112 (Ev.lnF e) e e (.p e (.z 5144 (Ev.lnF e) e e (.p e (.nil (.condO e h (fun g180 h => ?_) (fun g180 h => ?_))))))))))))
 ·refine Run.so hm (.p e (.nil (.ret ?_)))
  obtain rfl := someO h
  exact Ends.mkG (.inl e) e (gh_pk [0] [] hB e e e e) e e
 ·refine Run.skip (.seqO h (fun v219 => []) (fun (v219 : Unit) => []) (fun h => ?_) (fun v219 h => ?_))
  ·refine Run.so hm (.p e (.nil (.block ?_)))
   obtain ⟨res240,h,hk240⟩ := bindO h
   refine Run.loop (n := N) (fun m240 fr σ => ∃ (x222 : Int),laws_eqAppliedS_l1 N x1 x2 m240 x222 = some res240 ∧ fr = [(0,RO 133 (x1.map encApplied)),(1,RO 133 (x2.map encApplied)),(5,VI x222)] ∧ σ = []) (gh_pk [0,1,5] [] hB e e e e) ⟨_,h,e,e⟩ ?_
   rintro m240 fr σ ⟨x222,h,rfl,rfl⟩
   obtain _ | m240 := m240
   ·rw [laws_eqAppliedS_l1] at h; cases h
   rw [laws_eqAppliedS_l1] at h
   refine Run.seq (.so hm (.p2 e e (.z 17416 (Ev.lnF e) e e (.p e (.nil (.condO e h (fun g243 h => ?_) (fun g243 h => ?_)))))))
   ·refine Run.skip (.seq (.block (.seq (.draw hm hmix (.p e (.p e ?_))))))
    obtain ⟨x254,hx254,h⟩ := bindO h
    refine OpsD.z 25608 (Ev.iaF e e hx254) e e (.p e (.p e (.p e ?_)))
    obtain ⟨x255,hx255,h⟩ := bindO h
    refine OpsD.z 25672 (Ev.iaF e e hx255) e e (.p e ?_)
    obtain ⟨y256,hy256,h⟩ := bindO h
    refine OpsD.z 25704 (Ev.call [] [] 0 (sem_laws_eqApplied _ _ _ _ hy256) e e (.cons (.agg (.d4 (.d2 .nil))) (.cons (.agg (.d4 (.d2 .nil))) .nil)) e (.inl e) e e) e e (.p e (.nil ⟨by kernel_rfl,?_⟩))
    refine Run.condO e h (fun g257 h => ?_) (fun g257 h => ?_)
    ·refine Run.so hm (.p e (.nil (.ret ?_)))
     obtain rfl := someO h
     have h := hk240
     replace h := inlO h
     obtain rfl := someO h
     exact Ends.mkG (.inl e) e (gh_pk [0] [] hB e e e e) e e
    ·exact Run.skip (.ops hm (.p3 e e e (.nil (⟨m240,Nat.lt_succ_self m240,_,_,(gh_pk [0,1,5] [] hB e e e e),_,h,e,e⟩))))
   ·refine Run.exit ?_
    obtain rfl := someO h
    have h := hk240
    replace h := inrO h
    exact ⟨_,_,(gh_pk [] [] hB e e e e),(),h,e,e⟩
  ·refine Run.so hm (.p e (.nil (.ret ?_)))
   obtain rfl := someO h
   exact Ends.mkG (.inl e) e (gh_pk [0] [] hB e e e e) e e
def laws_eqCommand (N : Nat) (x1 : Command) (x2 : Command) : Option (Bool) :=
 (if (x1.Op != x2.Op) = true then
 some false
 else
 (if (x1.Session != x2.Session) = true then
 some false
 else
 (if (x1.Seq != x2.Seq) = true then
 some false
 else
 (if (!decide (x1.Key = x2.Key)) = true then
 some false
 else
 (if (!decide (x1.Value = x2.Value)) = true then
 some false
 else
 (if (!decide (x1.Old = x2.Old)) = true then
 some false
 else
 some true))))))
theorem sem_laws_eqCommand (N : Nat) (x1 : Command) (x2 : Command) (r : Bool) (h : laws_eqCommand N x1 x2 = some r) : Says Tryz.prog 75 [.agg [VI x1.Op,VI x1.Session,VI x1.Seq,VS x1.Key,VS x1.Value,VS x1.Old],.agg [VI x2.Op,VI x2.Session,VI x2.Seq,VS x2.Key,VS x2.Value,VS x2.Old]] 0 [] (VB r) [] := by
 unfold laws_eqCommand at h
 refine Says.of_norm e Tryz.call75 e fun B hB => ?_
 have hm : B.m ≤ 1000 := by omega
 refine Run.so hm (.z 1000 (.bx e e) e e (.z 1016 (.bx e e) e e (.p e (.nil (.seq (.so hm (.p3 e e e (.p2 e e (.nil (.condO e h (fun g112 h => ?_) (fun g112 h => ?_)))))))))))
 ·refine Run.so hm (.p e (.nil (.ret ?_)))
  obtain rfl := someO h
  exact Ends.mkG (.inl e) e (gh_pk [0] [] hB e e e e) e e
 ·refine Run.skip (.seq (.so hm (.p3 e e e (.p2 e e (.nil (.condO e h (fun g114 h => ?_) (fun g114 h => ?_)))))))
  ·refine Run.so hm (.p e (.nil (.ret ?_)))
   obtain rfl := someO h
   exact Ends.mkG (.inl e) e (gh_pk [0] [] hB e e e e) e e
  ·refine Run.skip (.seq (.so hm (.p3 e e e (.p2 e e (.nil (.condO e h (fun g116 h => ?_) (fun g116 h => ?_)))))))
   ·refine Run.so hm (.p e (.nil (.ret ?_)))
    obtain rfl := someO h
    exact Ends.mkG (.inl e) e (gh_pk [0] [] hB e e e e) e e
   ·refine Run.skip (.seq (.so hm (.p3 e e e (.p2 e e (.nil (.condO e h (fun g118 h => ?_) (fun g118 h => ?_)))))))
    ·refine Run.so hm (.p e (.nil (.ret ?_)))
     obtain rfl := someO h
     exact Ends.mkG (.inl e) e (gh_pk [0] [] hB e e e e) e e
    ·refine Run.skip (.seq (.so hm (.p3 e e e (.p2 e e (.nil (.condO e h (fun g120 h => ?_) (fun g120 h => ?_)))))))
     ·refine Run.so hm (.p e (.nil (.ret ?_)))
      obtain rfl := someO h
      exact Ends.mkG (.inl e) e (gh_pk [0] [] hB e e e e) e e
     ·refine Run.skip (.seq (.so hm (.p3 e e e (.p2 e e (.nil (.condO e h (fun g121 h => ?_) (fun g121 h => ?_)))))))
      ·refine Run.so hm (.p e (.nil (.ret ?_)))
       obtain rfl := someO h
       exact Ends.mkG (.inl e) e (gh_pk [0] [] hB e e e e) e e
      ·refine Run.skip (.so hm (.p e (.nil (.ret ?_))))
       obtain rfl := someO h
       exact Ends.mkG (.inl e) e (gh_pk [0] [] hB e e e e) e e
def laws_eqReply (N : Nat) (x1 : Reply) (x2 : Reply) : Option (Bool) :=
 (if (x1.Call != x2.Call) = true then
 some false
 else
 (if (x1.Index != x2.Index) = true then
 some false
 else
 (laws_eqCommand N x1.Command x2.Command).bind fun y119 =>
 (if (!y119) = true then
 some false
 else
 (if (!decide (x1.Text = x2.Text)) = true then
 some false
 else
 some true))))
theorem sem_laws_eqReply (N : Nat) (x1 : Reply) (x2 : Reply) (r : Bool) (h : laws_eqReply N x1 x2 = some r) : Says Tryz.prog 50 [.agg [VI x1.Call,VI x1.Index,VI x1.Command.Op,VI x1.Command.Session,VI x1.Command.Seq,VS x1.Command.Key,VS x1.Command.Value,VS x1.Command.Old,VS x1.Text],.agg [VI x2.Call,VI x2.Index,VI x2.Command.Op,VI x2.Command.Session,VI x2.Command.Seq,VS x2.Command.Key,VS x2.Command.Value,VS x2.Command.Old,VS x2.Text]] 0 [] (VB r) [] := by
 unfold laws_eqReply at h
 refine Says.of_norm e Tryz.call50 e fun B hB => ?_
 have hm : B.m ≤ 1000 := by omega
 refine Run.so hm (.z 1000 (.bx e e) e e (.z 1016 (.bx e e) e e (.p e (.nil (.seq (.so hm (.p3 e e e (.p2 e e (.nil (.condO e h (fun g112 h => ?_) (fun g112 h => ?_)))))))))))
 ·refine Run.so hm (.p e (.nil (.ret ?_)))
  obtain rfl := someO h
  exact Ends.mkG (.inl e) e (gh_pk [0] [] hB e e e e) e e
 ·refine Run.skip (.seq (.so hm (.p3 e e e (.p2 e e (.nil (.condO e h (fun g114 h => ?_) (fun g114 h => ?_)))))))
  ·refine Run.so hm (.p e (.nil (.ret ?_)))
   obtain rfl := someO h
   exact Ends.mkG (.inl e) e (gh_pk [0] [] hB e e e e) e e
  ·refine Run.skip (.seq (.so hm (.p3 e e e (.p e ?_))))
   obtain ⟨y119,hy119,h⟩ := bindO h
   refine Ops.z 21544 (Ev.call [] [] 0 (sem_laws_eqCommand _ _ _ _ hy119) e e (.cons (.agg (.d4 (.d2 .nil))) (.cons (.agg (.d4 (.d2 .nil))) .nil)) e (.inl e) e e) e e (.p e (.nil (.condO e h (fun g120 h => ?_) (fun g120 h => ?_))))
   ·refine Run.so hm (.p e (.nil (.ret ?_)))
    obtain rfl := someO h
    exact Ends.mkG (.inl e) e (gh_pk [0] [] hB e e e e) e e
   ·refine Run.skip (.seq (.so hm (.p3 e e e (.p2 e e (.nil (.condO e h (fun g121 h => ?_) (fun g121 h => ?_)))))))
    ·refine Run.so hm (.p e (.nil (.ret ?_)))
     obtain rfl := someO h
     exact Ends.mkG (.inl e) e (gh_pk [0] [] hB e e e e) e e
    ·refine Run.skip (.so hm (.p e (.nil (.ret ?_))))
     obtain rfl := someO h
     exact Ends.mkG (.inl e) e (gh_pk [0] [] hB e e e e) e e
def laws_eqReplyS_l1 (N : Nat) (x1 : (List Reply)) (x2 : (List Reply)) : Nat → Int → Option ((Bool) ⊕ (Unit))
 | 0,_ => none
 | m + 1,x222 =>
 (if (decide (x222 < (x1.length : Int))) = true then
 (at? x1 x222).bind fun x254 =>
 (at? x2 x222).bind fun x255 =>
 (laws_eqReply N x254 x255).bind fun y256 =>
 (if (!y256) = true then
 some (Sum.inl false)
 else
 laws_eqReplyS_l1 N x1 x2 m (w64 (x222 + 1)))
 else
 some (Sum.inr ()))
def laws_eqReplyS_l1_r (N : Nat) (x1 : (List Reply)) (x2 : (List Reply)) : (List Reply) → Int → Option ((Bool) ⊕ (Unit))
 | [],x222 =>
 some (Sum.inr ())
 | hd :: tl,x222 =>
 (some hd).bind fun x254 =>
 (at? x2 x222).bind fun x255 =>
 (laws_eqReply N x254 x255).bind fun y256 =>
 (if (!y256) = true then
 some (Sum.inl false)
 else
 laws_eqReplyS_l1_r N x1 x2 tl (w64 (x222 + 1)))
theorem laws_eqReplyS_l1_rng (N : Nat) (x1 : (List Reply)) (x2 : (List Reply)) (hx : x1.length ≤ 1099511627776) : ∀ (d k m : Nat),x1.length = k + d → d < m → laws_eqReplyS_l1 N x1 x2 m (k : Int) = laws_eqReplyS_l1_r N x1 x2 (x1.drop k) (k : Int) := by
 intro d
 induction d with
 | zero =>
  intro k m hd hm
  obtain ⟨m,rfl⟩ : ∃ q,m = q + 1 := ⟨m - 1,by omega⟩
  rw [laws_eqReplyS_l1,if_neg (by simp; omega),List.drop_eq_nil_of_le (by omega),laws_eqReplyS_l1_r]
 | succ d ih =>
  intro k m hd hm
  obtain ⟨m,rfl⟩ : ∃ q,m = q + 1 := ⟨m - 1,by omega⟩
  have hk : k < x1.length := by omega
  rw [laws_eqReplyS_l1,if_pos (by simp; omega),List.drop_eq_getElem_cons hk,laws_eqReplyS_l1_r]
  have h1 := at_lt hk
  have h2 := w64_succ (k := k) (by omega)
  have h3 := ih (k + 1) m
  simp only [h1,h2,h3 (by omega) (by omega)]
theorem laws_eqReplyS_l1_eq {N : Nat} (x1 : (List Reply)) (x2 : (List Reply)) (hx : x1.length ≤ 1099511627776) (hN : x1.length < N) : laws_eqReplyS_l1 N x1 x2 N 0 = laws_eqReplyS_l1_r N x1 x2 x1 0 := laws_eqReplyS_l1_rng N x1 x2 hx x1.length 0 N (by omega) hN
def laws_eqReplyS (N : Nat) (x1 : (List Reply)) (x2 : (List Reply)) : Option (Bool) :=
 (if ((x1.length : Int) != (x2.length : Int)) = true then
 some false
 else
 joinP (fun (v219 : Unit) =>
 some true) fun j219 =>
 (laws_eqReplyS_l1 N x1 x2 N 0).bind (Sum.elim (fun v239 => some v239) (fun (v240 : Unit) => j219 ())))
theorem sem_laws_eqReplyS (N : Nat) (x1 : (List Reply)) (x2 : (List Reply)) (r : Bool) (h : laws_eqReplyS N x1 x2 = some r) : Says Tryz.prog 31 [RO 56 (x1.map encReply),RO 56 (x2.map encReply)] 0 [] (VB r) [] := by
 unfold laws_eqReplyS at h
 refine Says.of_norm e Tryz.call31 e fun B hB => ?_
 have hm : B.m ≤ 1000 := by omega
 refine Run.so hm (.p e (.nil (.seq (.so hm (.p e (.z 5112 (Ev.lnF e) e e (.p e (.z 5144 (Ev.lnF e) e e (.p e (.nil (.condO e h (fun g180 h => ?_) (fun g180 h => ?_))))))))))))
 ·refine Run.so hm (.p e (.nil (.ret ?_)))
  obtain rfl := someO h
  exact Ends.mkG (.inl e) e (gh_pk [0] [] hB e e e e) e e
 ·refine Run.skip (.seqO h (fun v219 => []) (fun (v219 : Unit) => []) (fun h => ?_) (fun v219 h => ?_))
  ·refine Run.so hm (.p e (.nil (.block ?_)))
   obtain ⟨res240,h,hk240⟩ := bindO h
   refine Run.loop (n := N) (fun m240 fr σ => ∃ (x222 : Int),laws_eqReplyS_l1 N x1 x2 m240 x222 = some res240 ∧ fr = [(0,RO 56 (x1.map encReply)),(1,RO 56 (x2.map encReply)),(5,VI x222)] ∧ σ = []) (gh_pk [0,1,5] [] hB e e e e) ⟨_,h,e,e⟩ ?_
   rintro m240 fr σ ⟨x222,h,rfl,rfl⟩
   obtain _ | m240 := m240
   ·rw [laws_eqReplyS_l1] at h; cases h
   rw [laws_eqReplyS_l1] at h
   refine Run.seq (.so hm (.p2 e e (.z 17416 (Ev.lnF e) e e (.p e (.nil (.condO e h (fun g243 h => ?_) (fun g243 h => ?_)))))))
   ·refine Run.skip (.seq (.block (.seq (.draw hm hmix (.p e (.p e ?_))))))
    obtain ⟨x254,hx254,h⟩ := bindO h
    refine OpsD.z 25608 (Ev.iaF e e hx254) e e (.p e (.p e (.p e ?_)))
    obtain ⟨x255,hx255,h⟩ := bindO h
    refine OpsD.z 25672 (Ev.iaF e e hx255) e e (.p e ?_)
    obtain ⟨y256,hy256,h⟩ := bindO h
    refine OpsD.z 25704 (Ev.call [] [] 0 (sem_laws_eqReply _ _ _ _ hy256) e e (.cons (.agg (.d4 (.d4 (.d1 .nil)))) (.cons (.agg (.d4 (.d4 (.d1 .nil)))) .nil)) e (.inl e) e e) e e (.p e (.nil ⟨by kernel_rfl,?_⟩))
    refine Run.condO e h (fun g257 h => ?_) (fun g257 h => ?_)
    ·refine Run.so hm (.p e (.nil (.ret ?_)))
     obtain rfl := someO h
     have h := hk240
     replace h := inlO h
     obtain rfl := someO h
     exact Ends.mkG (.inl e) e (gh_pk [0] [] hB e e e e) e e
    ·exact Run.skip (.ops hm (.p3 e e e (.nil (⟨m240,Nat.lt_succ_self m240,_,_,(gh_pk [0,1,5] [] hB e e e e),_,h,e,e⟩))))
   ·refine Run.exit ?_
    obtain rfl := someO h
    have h := hk240
    replace h := inrO h
    exact ⟨_,_,(gh_pk [] [] hB e e e e),(),h,e,e⟩
  ·refine Run.so hm (.p e (.nil (.ret ?_)))
   obtain rfl := someO h
   exact Ends.mkG (.inl e) e (gh_pk [0] [] hB e e e e) e e
def laws_eqWorld (N : Nat) (x1 : World) (x2 : World) : Option (Bool) :=
 (laws_eqBoolS N x1.Up x2.Up).bind fun y143 =>
 (if (!y143) = true then
 some false
 else
 (laws_eqServerS N x1.Servers x2.Servers).bind fun y149 =>
 (if (!y149) = true then
 some false
 else
 (laws_eqMessageS N x1.Net x2.Net).bind fun y155 =>
 (if (!y155) = true then
 some false
 else
 (laws_eqWaitS N x1.Waits x2.Waits).bind fun y161 =>
 (if (!y161) = true then
 some false
 else
 (laws_eqLeaderS N x1.Leaders x2.Leaders).bind fun y167 =>
 (if (!y167) = true then
 some false
 else
 (laws_eqAppliedS N x1.Applied x2.Applied).bind fun y173 =>
 (if (!y173) = true then
 some false
 else
 (laws_eqReplyS N x1.Replies x2.Replies).bind fun y176 =>
 (if (!y176) = true then
 some false
 else
 some true)))))))
theorem sem_laws_eqWorld (N : Nat) (x1 : World) (x2 : World) (r : Bool) (h : laws_eqWorld N x1 x2 = some r) : Says Tryz.prog 8 [.agg [RO 4 (x1.Up.map encB),RO 119 (x1.Servers.map (encServer false)),RO 122 (x1.Net.map (encMessage false)),RO 125 (x1.Waits.map encWait),RO 129 (x1.Leaders.map (encLeader false)),RO 133 (x1.Applied.map encApplied),RO 56 (x1.Replies.map encReply)],.agg [RO 4 (x2.Up.map encB),RO 119 (x2.Servers.map (encServer false)),RO 122 (x2.Net.map (encMessage false)),RO 125 (x2.Waits.map encWait),RO 129 (x2.Leaders.map (encLeader false)),RO 133 (x2.Applied.map encApplied),RO 56 (x2.Replies.map encReply)]] 0 [] (VB r) [] := by
 unfold laws_eqWorld at h
 refine Says.of_norm e Tryz.call8 e fun B hB => ?_
 have hm : B.m ≤ 1000 := by omega
 refine Run.so hm (.z 1000 (.bx e e) e e (.z 1016 (.bx e e) e e (.p e (.nil (.seq (.so hm (.p3 e e e (.p e ?_))))))))
 obtain ⟨y143,hy143,h⟩ := bindO h
 refine Ops.z 5160 (Ev.call [] [] 0 (sem_laws_eqBoolS _ _ _ _ hy143) e e (.d2 .nil) e (.inl e) e e) e e (.p e (.nil (.condO e h (fun g144 h => ?_) (fun g144 h => ?_))))
 ·refine Run.so hm (.p e (.nil (.ret ?_)))
  obtain rfl := someO h
  exact Ends.mkG (.inl e) e (gh_pk [0] [] hB e e e e) e e
 ·refine Run.skip (.seq (.so hm (.p3 e e e (.p e ?_))))
  obtain ⟨y149,hy149,h⟩ := bindO h
  refine Ops.z 13352 (Ev.call [] [] 0 (sem_laws_eqServerS _ _ _ _ hy149) e e (.d2 .nil) e (.inl e) e e) e e (.p e (.nil (.condO e h (fun g150 h => ?_) (fun g150 h => ?_))))
  ·refine Run.so hm (.p e (.nil (.ret ?_)))
   obtain rfl := someO h
   exact Ends.mkG (.inl e) e (gh_pk [0] [] hB e e e e) e e
  ·refine Run.skip (.seq (.so hm (.p3 e e e (.p e ?_))))
   obtain ⟨y155,hy155,h⟩ := bindO h
   refine Ops.z 21544 (Ev.call [] [] 0 (sem_laws_eqMessageS _ _ _ _ hy155) e e (.d2 .nil) e (.inl e) e e) e e (.p e (.nil (.condO e h (fun g156 h => ?_) (fun g156 h => ?_))))
   ·refine Run.so hm (.p e (.nil (.ret ?_)))
    obtain rfl := someO h
    exact Ends.mkG (.inl e) e (gh_pk [0] [] hB e e e e) e e
   ·refine Run.skip (.seq (.so hm (.p3 e e e (.p e ?_))))
    obtain ⟨y161,hy161,h⟩ := bindO h
    refine Ops.z 29736 (Ev.call [] [] 0 (sem_laws_eqWaitS _ _ _ _ hy161) e e (.d2 .nil) e (.inl e) e e) e e (.p e (.nil (.condO e h (fun g162 h => ?_) (fun g162 h => ?_))))
    ·refine Run.so hm (.p e (.nil (.ret ?_)))
     obtain rfl := someO h
     exact Ends.mkG (.inl e) e (gh_pk [0] [] hB e e e e) e e
    ·refine Run.skip (.seq (.so hm (.p3 e e e (.p e ?_))))
     obtain ⟨y167,hy167,h⟩ := bindO h
     refine Ops.z 37928 (Ev.call [] [] 0 (sem_laws_eqLeaderS _ _ _ _ hy167) e e (.d2 .nil) e (.inl e) e e) e e (.p e (.nil (.condO e h (fun g168 h => ?_) (fun g168 h => ?_))))
     ·refine Run.so hm (.p e (.nil (.ret ?_)))
      obtain rfl := someO h
      exact Ends.mkG (.inl e) e (gh_pk [0] [] hB e e e e) e e
     ·refine Run.skip (.seq (.so hm (.p3 e e e (.p e ?_))))
      obtain ⟨y173,hy173,h⟩ := bindO h
      refine Ops.z 46120 (Ev.call [] [] 0 (sem_laws_eqAppliedS _ _ _ _ hy173) e e (.d2 .nil) e (.inl e) e e) e e (.p e (.nil (.condO e h (fun g174 h => ?_) (fun g174 h => ?_))))
      ·refine Run.so hm (.p e (.nil (.ret ?_)))
       obtain rfl := someO h
       exact Ends.mkG (.inl e) e (gh_pk [0] [] hB e e e e) e e
      ·refine Run.skip (.seq (.so hm (.p3 e e e (.p e ?_))))
       obtain ⟨y176,hy176,h⟩ := bindO h
       refine Ops.z 54312 (Ev.call [] [] 0 (sem_laws_eqReplyS _ _ _ _ hy176) e e (.d2 .nil) e (.inl e) e e) e e (.p e (.nil (.condO e h (fun g177 h => ?_) (fun g177 h => ?_))))
       ·refine Run.so hm (.p e (.nil (.ret ?_)))
        obtain rfl := someO h
        exact Ends.mkG (.inl e) e (gh_pk [0] [] hB e e e e) e e
       ·refine Run.skip (.so hm (.p e (.nil (.ret ?_))))
        obtain rfl := someO h
        exact Ends.mkG (.inl e) e (gh_pk [0] [] hB e e e e) e e
def laws_FnExactShowWorld (N : Nat) (x1 : World) : Option (Bool) :=
 (laws_szWorld N x1 1048576).bind fun y132 =>
 (if (decide (y132 < 0)) = true then
 some true
 else
 (laws_toWorld N x1).bind fun y141 =>
 (spec_ShowWorld N y141).bind fun y142 =>
 (laws_toWorld N x1).bind fun y146 =>
 (impl_ShowWorld N y146).bind fun y150 =>
 (if (!decide (y150 = y142)) = true then
 some false
 else
 (laws_toWorld N x1).bind fun y155 =>
 (laws_eqWorld N y146 y155).bind fun y156 =>
 (if (!y156) = true then
 some false
 else
 some true)))
theorem sem_laws_FnExactShowWorld (N : Nat) (x1 : World) (r : Bool) (h : laws_FnExactShowWorld N x1 = some r) : Says Tryz.prog 3 [.agg [RO 4 (x1.Up.map encB),RO 88 (x1.Servers.map (encServerL false)),RO 91 (x1.Net.map (encMessageL false)),RO 127 (x1.Waits.map encWait),RO 94 (x1.Leaders.map (encLeaderL false)),RO 99 (x1.Applied.map encApplied),RO 103 (x1.Replies.map encReply)]] 0 [] (VB r) [] := by
 unfold laws_FnExactShowWorld at h
 refine Says.of_norm e Tryz.call3 e fun B hB => ?_
 have hm : B.m ≤ 1000 := by omega
 refine Run.so hm (.z 1000 (.bx e e) e e (.p e (.nil (.so hm (.p e (.nil (.so hm (.p2 e e ?_))))))))
 obtain ⟨y132,hy132,h⟩ := bindO h
 refine Ops.z 9224 (Ev.call [] [] 0 (sem_laws_szWorld _ _ _ _ hy132) e e (.cons (.agg (.d4 (.d2 (.d1 .nil)))) (.d1 .nil)) e (.inl e) e e) e e (.p e (.nil (.seq (.so hm (.p2 e e (.nil (.condO e h (fun g134 h => ?_) (fun g134 h => ?_))))))))
 ·refine Run.so hm (.p e (.nil (.ret ?_)))
  obtain rfl := someO h
  exact Ends.mkG (.inl e) e (gh_pk [0] [] hB e e e e) e e
 ·refine Run.skip (.so hm (.p e ?_))
  obtain ⟨y141,hy141,h⟩ := bindO h
  refine Ops.z 21496 (Ev.call [] [] 7 (sem_laws_toWorld _ _ _ hy141) e e (.cons (.agg (.d4 (.d2 (.d1 .nil)))) .nil) e (.inl e) e e) e e ?_
  obtain ⟨y142,hy142,h⟩ := bindO h
  refine Ops.z 21512 (Ev.call [] [21496,21497,21498,21499,21500,21501,21502] 0 (sem_spec_ShowWorld _ _ _ hy142) e e (.cons (.agg (.cons (.borrow e (by decide) (lendW (fun _ => e) _ e)) (.cons (.borrow e (by decide) (lendW ro_encServer _ e)) (.cons (.borrow e (by decide) (lendW ro_encMessage _ e)) (.cons (.borrow e (by decide) (lendW (fun _ => e) _ e)) (.cons (.borrow e (by decide) (lendW ro_encLeader _ e)) (.cons (.borrow e (by decide) (lendW (fun _ => e) _ e)) (.cons (.borrow e (by decide) (lendW (fun _ => e) _ e)) .nil)))))))) .nil) e (.inr ⟨e,ownL_root trivial⟩) e e) e e ?_
  refine Ops.p e (.nil (.so hm (.p e ?_)))
  obtain ⟨y146,hy146,h⟩ := bindO h
  refine Ops.z 25592 (Ev.call [] [] 7 (sem_laws_toWorld _ _ _ hy146) e e (.cons (.agg (.d4 (.d2 (.d1 .nil)))) .nil) e (.inl e) e e) e e (.z 25608 (.al e e) e e (.y 25624 (.sto e e e e e e) e e (.nil (.so hm (.p e ?_)))))
  obtain ⟨y150,hy150,h⟩ := bindO h
  refine Ops.z 29688 (Ev.call [] [25592,25593,25594,25595,25596,25597,25598] 0 (sem_impl_ShowWorld _ _ _ hy150) e e (.cons (.agg (.cons (.borrow e (by decide) (lendW (fun _ => e) _ e)) (.cons (.borrow e (by decide) (lendW ro_encServer _ e)) (.cons (.borrow e (by decide) (lendW ro_encMessage _ e)) (.cons (.borrow e (by decide) (lendW (fun _ => e) _ e)) (.cons (.borrow e (by decide) (lendW ro_encLeader _ e)) (.cons (.borrow e (by decide) (lendW (fun _ => e) _ e)) (.cons (.borrow e (by decide) (lendW (fun _ => e) _ e)) .nil)))))))) .nil) e (.inr ⟨e,ownL_root trivial⟩) e e) e e ?_
  refine Ops.p e (.nil (.seq (.so hm (.p3 e e e (.nil (.condO e h (fun g152 h => ?_) (fun g152 h => ?_)))))))
  ·refine Run.so hm (.p e (.nil (.ret ?_)))
   obtain rfl := someO h
   exact Ends.mkG (.inl e) e (gh_pk [0] [] hB e e e e) e e
  ·refine Run.skip (.seq (.seq (.draw hm hmix (.p e (.p e ?_)))))
   obtain ⟨y155,hy155,h⟩ := bindO h
   refine OpsD.z 41992 (Ev.call [] [] 7 (sem_laws_toWorld _ _ _ hy155) e e (.cons (.agg (.d4 (.d2 (.d1 .nil)))) .nil) e (.inl e) e e) e e ?_
   obtain ⟨y156,hy156,h⟩ := bindO h
   refine OpsD.z 42008 (Ev.call [] [25592,25593,25594,25595,25596,25597,25598,41992,41993,41994,41995,41996,41997,41998] 0 (sem_laws_eqWorld _ _ _ _ hy156) e e (.cons (.agg (.cons (.borrow e (by decide) (lendW (fun _ => e) _ e)) (.cons (.borrow e (by decide) (lendW ro_encServer _ e)) (.cons (.borrow e (by decide) (lendW ro_encMessage _ e)) (.cons (.borrow e (by decide) (lendW (fun _ => e) _ e)) (.cons (.borrow e (by decide) (lendW ro_encLeader _ e)) (.cons (.borrow e (by decide) (lendW (fun _ => e) _ e)) (.cons (.borrow e (by decide) (lendW (fun _ => e) _ e)) .nil)))))))) (.cons (.agg (.cons (.borrow e (by decide) (lendW (fun _ => e) _ e)) (.cons (.borrow e (by decide) (lendW ro_encServer _ e)) (.cons (.borrow e (by decide) (lendW ro_encMessage _ e)) (.cons (.borrow e (by decide) (lendW (fun _ => e) _ e)) (.cons (.borrow e (by decide) (lendW ro_encLeader _ e)) (.cons (.borrow e (by decide) (lendW (fun _ => e) _ e)) (.cons (.borrow e (by decide) (lendW (fun _ => e) _ e)) .nil)))))))) .nil)) e (.inr ⟨e,ownL_root trivial⟩) e e) e e ?_
   refine OpsD.p e (.nil ⟨by kernel_rfl,?_⟩)
   refine Run.condO e h (fun g157 h => ?_) (fun g157 h => ?_)
   ·refine Run.so hm (.p e (.nil (.ret ?_)))
    obtain rfl := someO h
    exact Ends.mkG (.inl e) e (gh_pk [0] [] hB e e e e) e e
   ·refine Run.skip (.so hm (.p e (.nil (.ret ?_))))
    obtain rfl := someO h
    exact Ends.mkG (.inl e) e (gh_pk [0] [] hB e e e e) e e
end Go.Proofs.YtedoifjaobebeaaGreatDoor.Pe.FnExactShowWorld
