/- Functions, as pure functions; and that Go does just that. -/
import Derived.Test.YtebbgdjmplceiaaPeFFnExactNodeNew0
namespace Go.Proofs.Ytebbgdjmplceiaa.Pe.FnExactNodeNew
open Go Go.RowKit
set_option linter.unusedVariables false
set_option linter.unusedSimpArgs false
set_option maxHeartbeats 40000000
def spec_NodeOk_l1 (N : Nat) (x_1 : Node) (y_320 : Int × Int) (v_347 : (List Int)) : Nat → Int → Option ((Bool) ⊕ (Unit))
 | 0, _ => none
 | m + 1, x_419 =>
 (if (decide (x_419 < ((v_347.length : Nat) : Int))) = true then
 (at? x_1.Peers x_419).bind fun x_473 =>
 (at? v_347 x_419).bind fun x_474 =>
 (if (x_473.Id != x_474) = true then
 some (Sum.inl false)
 else
 (spec_l01In N x_473.Next (1 : Int) (w64 (y_320.1 + (1 : Int)))).bind fun y_476 =>
 (if (!y_476) = true then
 some (Sum.inl false)
 else
 (spec_l01In N x_473.Match (0 : Int) (w64 (x_473.Next - (1 : Int)))).bind fun y_478 =>
 (if (!y_478) = true then
 some (Sum.inl false)
 else
 (spec_l01In N x_473.Sent (0 : Int) (20000 : Int)).bind fun y_480 =>
 (if (!y_480) = true then
 some (Sum.inl false)
 else
 spec_NodeOk_l1 N x_1 y_320 v_347 m (w64 (x_419 + (1 : Int)))))))
 else
 some (Sum.inr ()))
def spec_NodeOk (N : Nat) (x_1 : Node) : Option (Bool) :=
 (spec_l01In N x_1.Id (1 : Int) (4 : Int)).bind fun y_305 =>
 (if (!y_305) = true then
 some false
 else
 (spec_ConfOk N x_1.Conf).bind fun y_307 =>
 (if (!y_307) = true then
 some false
 else
 (spec_LogOk N x_1.Log).bind fun y_309 =>
 (if (!y_309) = true then
 some false
 else
 (spec_l01In N x_1.Term (0 : Int) (100000 : Int)).bind fun y_311 =>
 (if (!y_311) = true then
 some false
 else
 (spec_l01In N x_1.Vote (0 : Int) (4 : Int)).bind fun y_313 =>
 (if (!y_313) = true then
 some false
 else
 (spec_l01In N x_1.Lead (0 : Int) (4 : Int)).bind fun y_315 =>
 (if (!y_315) = true then
 some false
 else
 (spec_l01In N x_1.Role (0 : Int) (2 : Int)).bind fun y_317 =>
 (if (!y_317) = true then
 some false
 else
 (spec_LogLast N x_1.Log).bind fun y_320 =>
 joinP (fun (v_332 : Unit) =>
 joinP (fun (v_347 : (List Int)) =>
 (if ((x_1.Peers.length : Int) != ((v_347.length : Nat) : Int)) = true then
 some false
 else
 joinP (fun (v_417 : Unit) =>
 some true) fun j_417 =>
 (spec_NodeOk_l1 N x_1 y_320 v_347 N (0 : Int)).bind (Sum.elim (fun v_457 => some v_457) (fun (v_458 : Unit) => j_417 ())))) fun j_347 =>
 (if (x_1.Role == (2 : Int)) = true then
 (spec_ConfOf N x_1).bind fun y_349 =>
 (spec_l16Others N y_349 x_1.Id).bind fun y_350 =>
 j_347 y_350
 else
 j_347 ([] : List Int))) fun j_332 =>
 (if (decide (x_1.Term < y_320.2)) = true then
 some false
 else
 (spec_l01In N x_1.Commit x_1.Log.Start y_320.1).bind fun y_334 =>
 (if (!y_334) = true then
 some false
 else
 (spec_l01In N x_1.Clock (0 : Int) (20 : Int)).bind fun y_336 =>
 (if (!y_336) = true then
 some false
 else
 (spec_l01In N x_1.Limit (1 : Int) (20 : Int)).bind fun y_338 =>
 (if (!y_338) = true then
 some false
 else
 (spec_l07Rise N x_1.Votes (1 : Int) (4 : Int)).bind fun y_340 =>
 (if (!y_340) = true then
 some false
 else
 (if (decide ((x_1.Votes.length : Int) > (0 : Int))) = true then
 (if (x_1.Role != (1 : Int)) = true then
 some false
 else
 j_332 ())
 else
 j_332 ())))))))))))))
theorem sem_spec_NodeOk (N : Nat) (x_1 : Node) (r : Bool) (h : spec_NodeOk N x_1 = some r) : Says Try.prog 64 [.agg [VI x_1.Id, VI x_1.Term, VI x_1.Vote, VI x_1.Role, VI x_1.Lead, RO 3 (x_1.Conf.map encI), VI x_1.Log.Start, VI x_1.Log.StartTerm, RO 48 (x_1.Log.Entries.map encEntry), VI x_1.Commit, VI x_1.Clock, VI x_1.Limit, RO 3 (x_1.Votes.map encI), RO 172 (x_1.Peers.map encPeer)]] 0 [] (VB r) [] := by
  unfold spec_NodeOk at h
  refine Says.of_run s64 Try.call64 rfl fun B hB => ?_
  have hm : B.m ≤ 1000 := by omega
  refine Run.seq ?_
  refine Run.ops hm ?_
  refine Ops.st (s := 1000) (.bx rfl rfl) rfl rfl ?_
  refine Ops.p rfl ?_
  refine Ops.nil ?_
  refine Run.seq ?_
  refine Run.seq ?_
  refine Run.ops hm ?_
  refine Ops.p rfl ?_
  refine Ops.p rfl ?_
  obtain ⟨y_305, hy_305, h⟩ := bindO h
  refine Ops.st (s := 5128) (Ev.call [] [] 0 (sem_spec_l01In N x_1.Id (1 : Int) (4 : Int) _ hy_305) rfl rfl (.cons (.c _) (.cons (.c _) (.cons (.c _) .nil))) rfl (.inl rfl) rfl rfl) rfl rfl ?_
  refine Ops.p rfl ?_
  refine Ops.p rfl ?_
  refine Ops.askO (x := .t 12) rfl h (fun g_306 h => ?_) (fun g_306 h => ?_)
  · skip
    refine Ops.gn rfl g_306 ?_
    refine Ops.gn rfl g_306 ?_
    refine Ops.gn rfl g_306 ?_
    refine Ops.gn rfl g_306 ?_
    refine Ops.st (s := 5240) (.pkT rfl g_306 rfl) rfl rfl ?_
    refine Ops.p rfl ?_
    refine Ops.gn rfl rfl ?_
    refine Ops.gn rfl rfl ?_
    refine Ops.gn rfl rfl ?_
    refine Ops.gn rfl rfl ?_
    refine Ops.st (s := 5336) (.pkT rfl rfl rfl) rfl rfl ?_
    refine Ops.p rfl ?_
    refine Ops.gn rfl rfl ?_
    refine Ops.gn rfl rfl ?_
    refine Ops.gn rfl rfl ?_
    refine Ops.gn rfl rfl ?_
    refine Ops.st (s := 5432) (.pkT rfl rfl rfl) rfl rfl ?_
    refine Ops.p rfl ?_
    refine Ops.gn rfl rfl ?_
    refine Ops.gn rfl rfl ?_
    refine Ops.gn rfl rfl ?_
    refine Ops.gn rfl rfl ?_
    refine Ops.st (s := 5528) (.pkT rfl rfl rfl) rfl rfl ?_
    refine Ops.p rfl ?_
    refine Ops.gn rfl rfl ?_
    refine Ops.gn rfl rfl ?_
    refine Ops.gn rfl rfl ?_
    refine Ops.gn rfl rfl ?_
    refine Ops.st (s := 5624) (.pkT rfl rfl rfl) rfl rfl ?_
    refine Ops.p rfl ?_
    refine Ops.gn rfl rfl ?_
    refine Ops.gn rfl rfl ?_
    refine Ops.gn rfl rfl ?_
    refine Ops.gn rfl rfl ?_
    refine Ops.st (s := 5720) (.pkT rfl rfl rfl) rfl rfl ?_
    refine Ops.nil ?_
    refine Run.condT rfl rfl ?_
    refine Run.seq ?_
    refine Run.ops hm ?_
    refine Ops.p rfl ?_
    refine Ops.nil ?_
    refine Run.ret ?_
    obtain rfl := someO h
    exact Ends.mkG (.inl rfl) rfl (gh_pk [0] [] hB rfl rfl rfl rfl) rfl rfl
  · skip
    refine Ops.gp rfl g_306 rfl ?_
    refine Ops.gp rfl g_306 rfl ?_
    obtain ⟨y_307, hy_307, h⟩ := bindO h
    refine Ops.gs (s := 5208) rfl g_306 (Ev.call [] [] 0 (sem_spec_ConfOk N x_1.Conf _ hy_307) rfl rfl (.cons (.c _) .nil) rfl (.inl rfl) rfl rfl) rfl rfl ?_
    refine Ops.gp rfl g_306 rfl ?_
    refine Ops.st (s := 5240) (.pkF rfl g_306 rfl) rfl rfl ?_
    refine Ops.p rfl ?_
    refine Ops.askO (x := .t 18) rfl h (fun g_308 h => ?_) (fun g_308 h => ?_)
    · skip
      refine Ops.gn rfl g_308 ?_
      refine Ops.gn rfl g_308 ?_
      refine Ops.gn rfl g_308 ?_
      refine Ops.gn rfl g_308 ?_
      refine Ops.st (s := 5336) (.pkT rfl g_308 rfl) rfl rfl ?_
      refine Ops.p rfl ?_
      refine Ops.gn rfl rfl ?_
      refine Ops.gn rfl rfl ?_
      refine Ops.gn rfl rfl ?_
      refine Ops.gn rfl rfl ?_
      refine Ops.st (s := 5432) (.pkT rfl rfl rfl) rfl rfl ?_
      refine Ops.p rfl ?_
      refine Ops.gn rfl rfl ?_
      refine Ops.gn rfl rfl ?_
      refine Ops.gn rfl rfl ?_
      refine Ops.gn rfl rfl ?_
      refine Ops.st (s := 5528) (.pkT rfl rfl rfl) rfl rfl ?_
      refine Ops.p rfl ?_
      refine Ops.gn rfl rfl ?_
      refine Ops.gn rfl rfl ?_
      refine Ops.gn rfl rfl ?_
      refine Ops.gn rfl rfl ?_
      refine Ops.st (s := 5624) (.pkT rfl rfl rfl) rfl rfl ?_
      refine Ops.p rfl ?_
      refine Ops.gn rfl rfl ?_
      refine Ops.gn rfl rfl ?_
      refine Ops.gn rfl rfl ?_
      refine Ops.gn rfl rfl ?_
      refine Ops.st (s := 5720) (.pkT rfl rfl rfl) rfl rfl ?_
      refine Ops.nil ?_
      refine Run.condT rfl rfl ?_
      refine Run.seq ?_
      refine Run.ops hm ?_
      refine Ops.p rfl ?_
      refine Ops.nil ?_
      refine Run.ret ?_
      obtain rfl := someO h
      exact Ends.mkG (.inl rfl) rfl (gh_pk [0] [] hB rfl rfl rfl rfl) rfl rfl
    · skip
      refine Ops.gp rfl g_308 rfl ?_
      refine Ops.gp rfl g_308 rfl ?_
      obtain ⟨y_309, hy_309, h⟩ := bindO h
      refine Ops.gs (s := 5304) rfl g_308 (Ev.call [] [] 0 (sem_spec_LogOk N x_1.Log _ hy_309) rfl rfl (.cons (.agg (.cons (.c _) (.cons (.c _) (.cons (.c _) .nil)))) .nil) rfl (.inl rfl) rfl rfl) rfl rfl ?_
      refine Ops.gp rfl g_308 rfl ?_
      refine Ops.st (s := 5336) (.pkF rfl g_308 rfl) rfl rfl ?_
      refine Ops.p rfl ?_
      refine Ops.askO (x := .t 24) rfl h (fun g_310 h => ?_) (fun g_310 h => ?_)
      · skip
        refine Ops.gn rfl g_310 ?_
        refine Ops.gn rfl g_310 ?_
        refine Ops.gn rfl g_310 ?_
        refine Ops.gn rfl g_310 ?_
        refine Ops.st (s := 5432) (.pkT rfl g_310 rfl) rfl rfl ?_
        refine Ops.p rfl ?_
        refine Ops.gn rfl rfl ?_
        refine Ops.gn rfl rfl ?_
        refine Ops.gn rfl rfl ?_
        refine Ops.gn rfl rfl ?_
        refine Ops.st (s := 5528) (.pkT rfl rfl rfl) rfl rfl ?_
        refine Ops.p rfl ?_
        refine Ops.gn rfl rfl ?_
        refine Ops.gn rfl rfl ?_
        refine Ops.gn rfl rfl ?_
        refine Ops.gn rfl rfl ?_
        refine Ops.st (s := 5624) (.pkT rfl rfl rfl) rfl rfl ?_
        refine Ops.p rfl ?_
        refine Ops.gn rfl rfl ?_
        refine Ops.gn rfl rfl ?_
        refine Ops.gn rfl rfl ?_
        refine Ops.gn rfl rfl ?_
        refine Ops.st (s := 5720) (.pkT rfl rfl rfl) rfl rfl ?_
        refine Ops.nil ?_
        refine Run.condT rfl rfl ?_
        refine Run.seq ?_
        refine Run.ops hm ?_
        refine Ops.p rfl ?_
        refine Ops.nil ?_
        refine Run.ret ?_
        obtain rfl := someO h
        exact Ends.mkG (.inl rfl) rfl (gh_pk [0] [] hB rfl rfl rfl rfl) rfl rfl
      · skip
        refine Ops.gp rfl g_310 rfl ?_
        refine Ops.gp rfl g_310 rfl ?_
        obtain ⟨y_311, hy_311, h⟩ := bindO h
        refine Ops.gs (s := 5400) rfl g_310 (Ev.call [] [] 0 (sem_spec_l01In N x_1.Term (0 : Int) (100000 : Int) _ hy_311) rfl rfl (.cons (.c _) (.cons (.c _) (.cons (.c _) .nil))) rfl (.inl rfl) rfl rfl) rfl rfl ?_
        refine Ops.gp rfl g_310 rfl ?_
        refine Ops.st (s := 5432) (.pkF rfl g_310 rfl) rfl rfl ?_
        refine Ops.p rfl ?_
        refine Ops.askO (x := .t 30) rfl h (fun g_312 h => ?_) (fun g_312 h => ?_)
        · skip
          refine Ops.gn rfl g_312 ?_
          refine Ops.gn rfl g_312 ?_
          refine Ops.gn rfl g_312 ?_
          refine Ops.gn rfl g_312 ?_
          refine Ops.st (s := 5528) (.pkT rfl g_312 rfl) rfl rfl ?_
          refine Ops.p rfl ?_
          refine Ops.gn rfl rfl ?_
          refine Ops.gn rfl rfl ?_
          refine Ops.gn rfl rfl ?_
          refine Ops.gn rfl rfl ?_
          refine Ops.st (s := 5624) (.pkT rfl rfl rfl) rfl rfl ?_
          refine Ops.p rfl ?_
          refine Ops.gn rfl rfl ?_
          refine Ops.gn rfl rfl ?_
          refine Ops.gn rfl rfl ?_
          refine Ops.gn rfl rfl ?_
          refine Ops.st (s := 5720) (.pkT rfl rfl rfl) rfl rfl ?_
          refine Ops.nil ?_
          refine Run.condT rfl rfl ?_
          refine Run.seq ?_
          refine Run.ops hm ?_
          refine Ops.p rfl ?_
          refine Ops.nil ?_
          refine Run.ret ?_
          obtain rfl := someO h
          exact Ends.mkG (.inl rfl) rfl (gh_pk [0] [] hB rfl rfl rfl rfl) rfl rfl
        · skip
          refine Ops.gp rfl g_312 rfl ?_
          refine Ops.gp rfl g_312 rfl ?_
          obtain ⟨y_313, hy_313, h⟩ := bindO h
          refine Ops.gs (s := 5496) rfl g_312 (Ev.call [] [] 0 (sem_spec_l01In N x_1.Vote (0 : Int) (4 : Int) _ hy_313) rfl rfl (.cons (.c _) (.cons (.c _) (.cons (.c _) .nil))) rfl (.inl rfl) rfl rfl) rfl rfl ?_
          refine Ops.gp rfl g_312 rfl ?_
          refine Ops.st (s := 5528) (.pkF rfl g_312 rfl) rfl rfl ?_
          refine Ops.p rfl ?_
          refine Ops.askO (x := .t 36) rfl h (fun g_314 h => ?_) (fun g_314 h => ?_)
          · skip
            refine Ops.gn rfl g_314 ?_
            refine Ops.gn rfl g_314 ?_
            refine Ops.gn rfl g_314 ?_
            refine Ops.gn rfl g_314 ?_
            refine Ops.st (s := 5624) (.pkT rfl g_314 rfl) rfl rfl ?_
            refine Ops.p rfl ?_
            refine Ops.gn rfl rfl ?_
            refine Ops.gn rfl rfl ?_
            refine Ops.gn rfl rfl ?_
            refine Ops.gn rfl rfl ?_
            refine Ops.st (s := 5720) (.pkT rfl rfl rfl) rfl rfl ?_
            refine Ops.nil ?_
            refine Run.condT rfl rfl ?_
            refine Run.seq ?_
            refine Run.ops hm ?_
            refine Ops.p rfl ?_
            refine Ops.nil ?_
            refine Run.ret ?_
            obtain rfl := someO h
            exact Ends.mkG (.inl rfl) rfl (gh_pk [0] [] hB rfl rfl rfl rfl) rfl rfl
          · skip
            refine Ops.gp rfl g_314 rfl ?_
            refine Ops.gp rfl g_314 rfl ?_
            obtain ⟨y_315, hy_315, h⟩ := bindO h
            refine Ops.gs (s := 5592) rfl g_314 (Ev.call [] [] 0 (sem_spec_l01In N x_1.Lead (0 : Int) (4 : Int) _ hy_315) rfl rfl (.cons (.c _) (.cons (.c _) (.cons (.c _) .nil))) rfl (.inl rfl) rfl rfl) rfl rfl ?_
            refine Ops.gp rfl g_314 rfl ?_
            refine Ops.st (s := 5624) (.pkF rfl g_314 rfl) rfl rfl ?_
            refine Ops.p rfl ?_
            refine Ops.askO (x := .t 42) rfl h (fun g_316 h => ?_) (fun g_316 h => ?_)
            · skip
              refine Ops.gn rfl g_316 ?_
              refine Ops.gn rfl g_316 ?_
              refine Ops.gn rfl g_316 ?_
              refine Ops.gn rfl g_316 ?_
              refine Ops.st (s := 5720) (.pkT rfl g_316 rfl) rfl rfl ?_
              refine Ops.nil ?_
              refine Run.condT rfl rfl ?_
              refine Run.seq ?_
              refine Run.ops hm ?_
              refine Ops.p rfl ?_
              refine Ops.nil ?_
              refine Run.ret ?_
              obtain rfl := someO h
              exact Ends.mkG (.inl rfl) rfl (gh_pk [0] [] hB rfl rfl rfl rfl) rfl rfl
            · skip
              refine Ops.gp rfl g_316 rfl ?_
              refine Ops.gp rfl g_316 rfl ?_
              obtain ⟨y_317, hy_317, h⟩ := bindO h
              refine Ops.gs (s := 5688) rfl g_316 (Ev.call [] [] 0 (sem_spec_l01In N x_1.Role (0 : Int) (2 : Int) _ hy_317) rfl rfl (.cons (.c _) (.cons (.c _) (.cons (.c _) .nil))) rfl (.inl rfl) rfl rfl) rfl rfl ?_
              refine Ops.gp rfl g_316 rfl ?_
              refine Ops.st (s := 5720) (.pkF rfl g_316 rfl) rfl rfl ?_
              refine Ops.nil ?_
              refine Run.condO rfl h (fun g_318 h => ?_) (fun g_318 h => ?_)
              · skip
                refine Run.seq ?_
                refine Run.ops hm ?_
                refine Ops.p rfl ?_
                refine Ops.nil ?_
                refine Run.ret ?_
                obtain rfl := someO h
                exact Ends.mkG (.inl rfl) rfl (gh_pk [0] [] hB rfl rfl rfl rfl) rfl rfl
              · skip
                refine Run.skip ?_
                refine Run.seq ?_
                refine Run.ops hm ?_
                refine Ops.p rfl ?_
                refine Ops.p rfl ?_
                obtain ⟨y_320, hy_320, h⟩ := bindO h
                refine Ops.st (s := 13320) (Ev.call [] [] 0 (sem_spec_LogLast N x_1.Log _ hy_320) rfl rfl (.cons (.agg (.cons (.c _) (.cons (.c _) (.cons (.c _) .nil)))) .nil) rfl (.inl rfl) rfl rfl) rfl rfl ?_
                refine Ops.p rfl ?_
                refine Ops.p rfl ?_
                refine Ops.p rfl ?_
                refine Ops.p rfl ?_
                refine Ops.p rfl ?_
                refine Ops.nil ?_
                refine Run.seqO h (fun (v_332 : Unit) => [(1, .ptr 0 0), (3, VI y_320.1)]) (fun (v_332 : Unit) => [(0, .box [VI x_1.Id, VI x_1.Term, VI x_1.Vote, VI x_1.Role, VI x_1.Lead, RO 3 (x_1.Conf.map encI), VI x_1.Log.Start, VI x_1.Log.StartTerm, RO 48 (x_1.Log.Entries.map encEntry), VI x_1.Commit, VI x_1.Clock, VI x_1.Limit, RO 3 (x_1.Votes.map encI), RO 172 (x_1.Peers.map encPeer)])]) (fun h => ?_) (fun v_332 h => ?_)
                · skip
                  refine Run.seq ?_
                  refine Run.ops hm ?_
                  refine Ops.p rfl ?_
                  refine Ops.p rfl ?_
                  refine Ops.p rfl ?_
                  refine Ops.p rfl ?_
                  refine Ops.p rfl ?_
                  refine Ops.askO (x := .t 58) rfl h (fun g_333 h => ?_) (fun g_333 h => ?_)
                  · skip
                    refine Ops.gn rfl g_333 ?_
                    refine Ops.gn rfl g_333 ?_
                    refine Ops.gn rfl g_333 ?_
                    refine Ops.gn rfl g_333 ?_
                    refine Ops.gn rfl g_333 ?_
                    refine Ops.gn rfl g_333 ?_
                    refine Ops.gn rfl g_333 ?_
                    refine Ops.gn rfl g_333 ?_
                    refine Ops.st (s := 17592) (.pkT rfl g_333 rfl) rfl rfl ?_
                    refine Ops.p rfl ?_
                    refine Ops.gn rfl rfl ?_
                    refine Ops.gn rfl rfl ?_
                    refine Ops.gn rfl rfl ?_
                    refine Ops.gn rfl rfl ?_
                    refine Ops.st (s := 17688) (.pkT rfl rfl rfl) rfl rfl ?_
                    refine Ops.p rfl ?_
                    refine Ops.gn rfl rfl ?_
                    refine Ops.gn rfl rfl ?_
                    refine Ops.gn rfl rfl ?_
                    refine Ops.gn rfl rfl ?_
                    refine Ops.st (s := 17784) (.pkT rfl rfl rfl) rfl rfl ?_
                    refine Ops.p rfl ?_
                    refine Ops.gn rfl rfl ?_
                    refine Ops.gn rfl rfl ?_
                    refine Ops.gn rfl rfl ?_
                    refine Ops.gn rfl rfl ?_
                    refine Ops.st (s := 17880) (.pkT rfl rfl rfl) rfl rfl ?_
                    refine Ops.p rfl ?_
                    refine Ops.gn rfl rfl ?_
                    refine Ops.gn rfl rfl ?_
                    refine Ops.gn rfl rfl ?_
                    refine Ops.gn rfl rfl ?_
                    refine Ops.gn rfl rfl ?_
                    refine Ops.gu rfl ?_
                    refine Ops.gu rfl ?_
                    refine Ops.gu rfl ?_
                    refine Ops.gn rfl rfl ?_
                    refine Ops.st (s := 18056) (.pkT rfl rfl rfl) rfl rfl ?_
                    refine Ops.nil ?_
                    refine Run.condT rfl rfl ?_
                    refine Run.seq ?_
                    refine Run.ops hm ?_
                    refine Ops.p rfl ?_
                    refine Ops.nil ?_
                    refine Run.ret ?_
                    obtain rfl := someO h
                    exact Ends.mkG (.inl rfl) rfl (gh_pk [0] [] hB rfl rfl rfl rfl) rfl rfl
                  · skip
                    refine Ops.gp rfl g_333 rfl ?_
                    refine Ops.gp rfl g_333 rfl ?_
                    refine Ops.gp rfl g_333 rfl ?_
                    refine Ops.gp rfl g_333 rfl ?_
                    refine Ops.gp rfl g_333 rfl ?_
                    refine Ops.gp rfl g_333 rfl ?_
                    obtain ⟨y_334, hy_334, h⟩ := bindO h
                    refine Ops.gs (s := 17560) rfl g_333 (Ev.call [] [] 0 (sem_spec_l01In N x_1.Commit x_1.Log.Start y_320.1 _ hy_334) rfl rfl (.cons (.c _) (.cons (.c _) (.cons (.c _) .nil))) rfl (.inl rfl) rfl rfl) rfl rfl ?_
                    refine Ops.gp rfl g_333 rfl ?_
                    refine Ops.st (s := 17592) (.pkF rfl g_333 rfl) rfl rfl ?_
                    refine Ops.p rfl ?_
                    refine Ops.askO (x := .t 68) rfl h (fun g_335 h => ?_) (fun g_335 h => ?_)
                    · skip
                      refine Ops.gn rfl g_335 ?_
                      refine Ops.gn rfl g_335 ?_
                      refine Ops.gn rfl g_335 ?_
                      refine Ops.gn rfl g_335 ?_
                      refine Ops.st (s := 17688) (.pkT rfl g_335 rfl) rfl rfl ?_
                      refine Ops.p rfl ?_
                      refine Ops.gn rfl rfl ?_
                      refine Ops.gn rfl rfl ?_
                      refine Ops.gn rfl rfl ?_
                      refine Ops.gn rfl rfl ?_
                      refine Ops.st (s := 17784) (.pkT rfl rfl rfl) rfl rfl ?_
                      refine Ops.p rfl ?_
                      refine Ops.gn rfl rfl ?_
                      refine Ops.gn rfl rfl ?_
                      refine Ops.gn rfl rfl ?_
                      refine Ops.gn rfl rfl ?_
                      refine Ops.st (s := 17880) (.pkT rfl rfl rfl) rfl rfl ?_
                      refine Ops.p rfl ?_
                      refine Ops.gn rfl rfl ?_
                      refine Ops.gn rfl rfl ?_
                      refine Ops.gn rfl rfl ?_
                      refine Ops.gn rfl rfl ?_
                      refine Ops.gn rfl rfl ?_
                      refine Ops.gu rfl ?_
                      refine Ops.gu rfl ?_
                      refine Ops.gu rfl ?_
                      refine Ops.gn rfl rfl ?_
                      refine Ops.st (s := 18056) (.pkT rfl rfl rfl) rfl rfl ?_
                      refine Ops.nil ?_
                      refine Run.condT rfl rfl ?_
                      refine Run.seq ?_
                      refine Run.ops hm ?_
                      refine Ops.p rfl ?_
                      refine Ops.nil ?_
                      refine Run.ret ?_
                      obtain rfl := someO h
                      exact Ends.mkG (.inl rfl) rfl (gh_pk [0] [] hB rfl rfl rfl rfl) rfl rfl
                    · skip
                      refine Ops.gp rfl g_335 rfl ?_
                      refine Ops.gp rfl g_335 rfl ?_
                      obtain ⟨y_336, hy_336, h⟩ := bindO h
                      refine Ops.gs (s := 17656) rfl g_335 (Ev.call [] [] 0 (sem_spec_l01In N x_1.Clock (0 : Int) (20 : Int) _ hy_336) rfl rfl (.cons (.c _) (.cons (.c _) (.cons (.c _) .nil))) rfl (.inl rfl) rfl rfl) rfl rfl ?_
                      refine Ops.gp rfl g_335 rfl ?_
                      refine Ops.st (s := 17688) (.pkF rfl g_335 rfl) rfl rfl ?_
                      refine Ops.p rfl ?_
                      refine Ops.askO (x := .t 74) rfl h (fun g_337 h => ?_) (fun g_337 h => ?_)
                      · skip
                        refine Ops.gn rfl g_337 ?_
                        refine Ops.gn rfl g_337 ?_
                        refine Ops.gn rfl g_337 ?_
                        refine Ops.gn rfl g_337 ?_
                        refine Ops.st (s := 17784) (.pkT rfl g_337 rfl) rfl rfl ?_
                        refine Ops.p rfl ?_
                        refine Ops.gn rfl rfl ?_
                        refine Ops.gn rfl rfl ?_
                        refine Ops.gn rfl rfl ?_
                        refine Ops.gn rfl rfl ?_
                        refine Ops.st (s := 17880) (.pkT rfl rfl rfl) rfl rfl ?_
                        refine Ops.p rfl ?_
                        refine Ops.gn rfl rfl ?_
                        refine Ops.gn rfl rfl ?_
                        refine Ops.gn rfl rfl ?_
                        refine Ops.gn rfl rfl ?_
                        refine Ops.gn rfl rfl ?_
                        refine Ops.gu rfl ?_
                        refine Ops.gu rfl ?_
                        refine Ops.gu rfl ?_
                        refine Ops.gn rfl rfl ?_
                        refine Ops.st (s := 18056) (.pkT rfl rfl rfl) rfl rfl ?_
                        refine Ops.nil ?_
                        refine Run.condT rfl rfl ?_
                        refine Run.seq ?_
                        refine Run.ops hm ?_
                        refine Ops.p rfl ?_
                        refine Ops.nil ?_
                        refine Run.ret ?_
                        obtain rfl := someO h
                        exact Ends.mkG (.inl rfl) rfl (gh_pk [0] [] hB rfl rfl rfl rfl) rfl rfl
                      · skip
                        refine Ops.gp rfl g_337 rfl ?_
                        refine Ops.gp rfl g_337 rfl ?_
                        obtain ⟨y_338, hy_338, h⟩ := bindO h
                        refine Ops.gs (s := 17752) rfl g_337 (Ev.call [] [] 0 (sem_spec_l01In N x_1.Limit (1 : Int) (20 : Int) _ hy_338) rfl rfl (.cons (.c _) (.cons (.c _) (.cons (.c _) .nil))) rfl (.inl rfl) rfl rfl) rfl rfl ?_
                        refine Ops.gp rfl g_337 rfl ?_
                        refine Ops.st (s := 17784) (.pkF rfl g_337 rfl) rfl rfl ?_
                        refine Ops.p rfl ?_
                        refine Ops.askO (x := .t 80) rfl h (fun g_339 h => ?_) (fun g_339 h => ?_)
                        · skip
                          refine Ops.gn rfl g_339 ?_
                          refine Ops.gn rfl g_339 ?_
                          refine Ops.gn rfl g_339 ?_
                          refine Ops.gn rfl g_339 ?_
                          refine Ops.st (s := 17880) (.pkT rfl g_339 rfl) rfl rfl ?_
                          refine Ops.p rfl ?_
                          refine Ops.gn rfl rfl ?_
                          refine Ops.gn rfl rfl ?_
                          refine Ops.gn rfl rfl ?_
                          refine Ops.gn rfl rfl ?_
                          refine Ops.gn rfl rfl ?_
                          refine Ops.gu rfl ?_
                          refine Ops.gu rfl ?_
                          refine Ops.gu rfl ?_
                          refine Ops.gn rfl rfl ?_
                          refine Ops.st (s := 18056) (.pkT rfl rfl rfl) rfl rfl ?_
                          refine Ops.nil ?_
                          refine Run.condT rfl rfl ?_
                          refine Run.seq ?_
                          refine Run.ops hm ?_
                          refine Ops.p rfl ?_
                          refine Ops.nil ?_
                          refine Run.ret ?_
                          obtain rfl := someO h
                          exact Ends.mkG (.inl rfl) rfl (gh_pk [0] [] hB rfl rfl rfl rfl) rfl rfl
                        · skip
                          refine Ops.gp rfl g_339 rfl ?_
                          refine Ops.gp rfl g_339 rfl ?_
                          obtain ⟨y_340, hy_340, h⟩ := bindO h
                          refine Ops.gs (s := 17848) rfl g_339 (Ev.call [] [] 0 (sem_spec_l07Rise N x_1.Votes (1 : Int) (4 : Int) _ hy_340) rfl rfl (.cons (.c _) (.cons (.c _) (.cons (.c _) .nil))) rfl (.inl rfl) rfl rfl) rfl rfl ?_
                          refine Ops.gp rfl g_339 rfl ?_
                          refine Ops.st (s := 17880) (.pkF rfl g_339 rfl) rfl rfl ?_
                          refine Ops.p rfl ?_
                          refine Ops.askO (x := .t 86) rfl h (fun g_341 h => ?_) (fun g_341 h => ?_)
                          · skip
                            refine Ops.gn rfl g_341 ?_
                            refine Ops.gn rfl g_341 ?_
                            refine Ops.gn rfl g_341 ?_
                            refine Ops.gn rfl g_341 ?_
                            refine Ops.gn rfl g_341 ?_
                            refine Ops.gu rfl ?_
                            refine Ops.gu rfl ?_
                            refine Ops.gu rfl ?_
                            refine Ops.gn rfl g_341 ?_
                            refine Ops.st (s := 18056) (.pkT rfl g_341 rfl) rfl rfl ?_
                            refine Ops.nil ?_
                            refine Run.condT rfl rfl ?_
                            refine Run.seq ?_
                            refine Run.ops hm ?_
                            refine Ops.p rfl ?_
                            refine Ops.nil ?_
                            refine Run.ret ?_
                            obtain rfl := someO h
                            exact Ends.mkG (.inl rfl) rfl (gh_pk [0] [] hB rfl rfl rfl rfl) rfl rfl
                          · skip
                            refine Ops.gp rfl g_341 rfl ?_
                            refine Ops.gp rfl g_341 rfl ?_
                            refine Ops.gs (s := 17944) rfl g_341 (Ev.lnF rfl) rfl rfl ?_
                            refine Ops.gp rfl g_341 rfl ?_
                            refine Ops.gp rfl g_341 rfl ?_
                            refine Ops.askO (x := .t 91) rfl h (fun g_342 h => ?_) (fun g_342 h => ?_)
                            · skip
                              refine Ops.gp rfl g_342 rfl ?_
                              refine Ops.gp rfl g_342 rfl ?_
                              refine Ops.gp rfl g_342 rfl ?_
                              refine Ops.gs (s := 18040) rfl g_341 (.pkT rfl g_342 rfl) rfl rfl ?_
                              refine Ops.st (s := 18056) (.pkF rfl g_341 rfl) rfl rfl ?_
                              refine Ops.nil ?_
                              refine Run.condO rfl h (fun g_343 h => ?_) (fun g_343 h => ?_)
                              · skip
                                refine Run.seq ?_
                                refine Run.ops hm ?_
                                refine Ops.p rfl ?_
                                refine Ops.nil ?_
                                refine Run.ret ?_
                                obtain rfl := someO h
                                exact Ends.mkG (.inl rfl) rfl (gh_pk [0] [] hB rfl rfl rfl rfl) rfl rfl
                              · skip
                                refine Run.skip ?_
                                exact ⟨_, _, (gh_pk [1, 3] [1000] hB rfl rfl rfl rfl), (), h, rfl, rfl⟩
                            · skip
                              refine Ops.gn rfl g_342 ?_
                              refine Ops.gn rfl g_342 ?_
                              refine Ops.gn rfl g_342 ?_
                              refine Ops.gs (s := 18040) rfl g_341 (.pkF rfl g_342 rfl) rfl rfl ?_
                              refine Ops.st (s := 18056) (.pkF rfl g_341 rfl) rfl rfl ?_
                              refine Ops.nil ?_
                              refine Run.condF rfl rfl ?_
                              refine Run.skip ?_
                              exact ⟨_, _, (gh_pk [1, 3] [1000] hB rfl rfl rfl rfl), (), h, rfl, rfl⟩
                · skip
                  refine Run.seq ?_
                  refine Run.ops hm ?_
                  refine Ops.st (s := 25576) (Ev.bsW (ys := ([] : List Int)) (f := encI) rfl .nil rfl rfl rfl rfl rfl) rfl rfl ?_
                  refine Ops.p rfl ?_
                  refine Ops.nil ?_
                  refine Run.seqO h (fun (v_347 : (List Int)) => [(1, .ptr 0 0), (3, VI y_320.1), (5, .sl 1 3 0 v_347.length)]) (fun (v_347 : (List Int)) => [(0, .box [VI x_1.Id, VI x_1.Term, VI x_1.Vote, VI x_1.Role, VI x_1.Lead, RO 3 (x_1.Conf.map encI), VI x_1.Log.Start, VI x_1.Log.StartTerm, RO 48 (x_1.Log.Entries.map encEntry), VI x_1.Commit, VI x_1.Clock, VI x_1.Limit, RO 3 (x_1.Votes.map encI), RO 172 (x_1.Peers.map encPeer)]), (1, .vec 3 (v_347.map encI))]) (fun h => ?_) (fun v_347 h => ?_)
                  · skip
                    refine Run.seq ?_
                    refine Run.ops hm ?_
                    refine Ops.p rfl ?_
                    refine Ops.p rfl ?_
                    refine Ops.p rfl ?_
                    refine Ops.nil ?_
                    refine Run.condO rfl h (fun g_348 h => ?_) (fun g_348 h => ?_)
                    · skip
                      refine Run.draw hm hmix ?_
                      refine OpsD.p rfl ?_
                      obtain ⟨y_349, hy_349, h⟩ := bindO h
                      refine OpsD.st (s := 33784) (Ev.call [] [] 1 (sem_spec_ConfOf N x_1 _ hy_349) rfl rfl (.cons (.agg (.cons (.c _) (.cons (.c _) (.cons (.c _) (.cons (.c _) (.cons (.c _) (.cons (.c _) (.cons (.c _) (.cons (.c _) (.cons (.c _) (.cons (.c _) (.cons (.c _) (.cons (.c _) (.cons (.c _) (.cons (.c _) .nil))))))))))))))) .nil) rfl (.inl rfl) rfl rfl) rfl rfl ?_
                      refine OpsD.p rfl ?_
                      refine OpsD.p rfl ?_
                      obtain ⟨y_350, hy_350, h⟩ := bindO h
                      refine OpsD.st (s := 33832) (Ev.call [] [33784] 1 (sem_spec_l16Others N y_349 x_1.Id _ hy_350) rfl rfl (.cons (.borrow rfl (by decide) (lendW (fun _ => rfl) _ rfl)) (.cons (.c _) .nil)) rfl (.inr ⟨rfl, ownL_root ⟨own_rows (fun _ => rfl) _, trivial⟩⟩) rfl rfl) rfl rfl ?_
                      refine OpsD.p rfl ?_
                      refine OpsD.nil ⟨by kernel_rfl, ?_⟩
                      exact ⟨_, _, (gh_pk [1, 3, 5] [0, 33832] hB rfl rfl rfl rfl), y_350, h, rfl, rfl⟩
                    · skip
                      refine Run.skip ?_
                      exact ⟨_, _, (gh_pk [1, 3, 5] [0, 25576] hB rfl rfl rfl rfl), ([] : List Int), h, rfl, rfl⟩
                  · skip
                    refine Run.seq ?_
                    refine Run.seq ?_
                    refine Run.ops hm ?_
                    refine Ops.p rfl ?_
                    refine Ops.p rfl ?_
                    refine Ops.st (s := 37896) (Ev.lnF rfl) rfl rfl ?_
                    refine Ops.p rfl ?_
                    refine Ops.p rfl ?_
                    refine Ops.p rfl ?_
                    refine Ops.nil ?_
                    refine Run.condO rfl h (fun g_352 h => ?_) (fun g_352 h => ?_)
                    · skip
                      refine Run.seq ?_
                      refine Run.ops hm ?_
                      refine Ops.p rfl ?_
                      refine Ops.nil ?_
                      refine Run.ret ?_
                      obtain rfl := someO h
                      exact Ends.mkG (.inl rfl) rfl (gh_pk [0] [] hB rfl rfl rfl rfl) rfl rfl
                    · skip
                      refine Run.skip ?_
                      refine Run.seqO h (fun (v_417 : Unit) => []) (fun (v_417 : Unit) => []) (fun h => ?_) (fun v_417 h => ?_)
                      · skip
                        refine Run.seq ?_
                        refine Run.ops hm ?_
                        refine Ops.p rfl ?_
                        refine Ops.nil ?_
                        refine Run.block ?_
                        obtain ⟨res_458, h, hk_458⟩ := bindO h
                        refine Run.loop (n := N) (fun m_458 fr σ => ∃ (x_419 : Int), spec_NodeOk_l1 N x_1 y_320 v_347 m_458 x_419 = some res_458 ∧ fr = [(1, .ptr 0 0), (3, VI y_320.1), (5, .sl 1 3 0 v_347.length), (6, VI x_419)] ∧ σ = [(0, .box [VI x_1.Id, VI x_1.Term, VI x_1.Vote, VI x_1.Role, VI x_1.Lead, RO 3 (x_1.Conf.map encI), VI x_1.Log.Start, VI x_1.Log.StartTerm, RO 48 (x_1.Log.Entries.map encEntry), VI x_1.Commit, VI x_1.Clock, VI x_1.Limit, RO 3 (x_1.Votes.map encI), RO 172 (x_1.Peers.map encPeer)]), (1, .vec 3 (v_347.map encI))]) (gh_pk [1, 3, 5, 6] [0, 1] hB rfl rfl rfl rfl) ⟨_, h, rfl, rfl⟩ ?_
                        rintro m_458 fr σ ⟨x_419, h, rfl, rfl⟩
                        obtain _ | m_458 := m_458
                        · rw [spec_NodeOk_l1] at h; cases h
                        rw [spec_NodeOk_l1] at h
                        refine Run.seq ?_
                        refine Run.seq ?_
                        refine Run.ops hm ?_
                        refine Ops.p rfl ?_
                        refine Ops.p rfl ?_
                        refine Ops.p rfl ?_
                        refine Ops.p rfl ?_
                        refine Ops.nil ?_
                        refine Run.condO rfl h (fun g_461 h => ?_) (fun g_461 h => ?_)
                        · skip
                          refine Run.skip ?_
                          refine Run.seq ?_
                          refine Run.block ?_
                          refine Run.seq ?_
                          refine Run.ops hm ?_
                          refine Ops.p rfl ?_
                          refine Ops.p rfl ?_
                          refine Ops.p rfl ?_
                          obtain ⟨x_473, hx_473, h⟩ := bindO h
                          refine Ops.st (s := 58392) (Ev.iaF rfl rfl hx_473) rfl rfl ?_
                          refine Ops.p rfl ?_
                          refine Ops.st (s := 58424) (.al rfl rfl) rfl rfl ?_
                          refine Ops.s0 (s := 58440) (.sto rfl rfl rfl rfl rfl rfl) rfl rfl ?_
                          refine Ops.nil ?_
                          refine Run.seq ?_
                          refine Run.draw hm hmix ?_
                          refine OpsD.p rfl ?_
                          refine OpsD.p rfl ?_
                          refine OpsD.p rfl ?_
                          refine OpsD.p rfl ?_
                          obtain ⟨x_474, hx_474, h⟩ := bindO h
                          refine OpsD.st (s := 62504) (Ev.iaW rfl rfl rfl hx_474) rfl rfl ?_
                          refine OpsD.st (s := 62520) (Ev.ldE (f := encI) rfl rfl (at_some hx_474).2 rfl rfl rfl) rfl rfl ?_
                          refine OpsD.p rfl ?_
                          refine OpsD.p rfl ?_
                          refine OpsD.askO (x := .t 130) rfl h (fun g_475 h => ?_) (fun g_475 h => ?_)
                          · skip
                            refine OpsD.gn rfl g_475 ?_
                            refine OpsD.gn rfl g_475 ?_
                            refine OpsD.gn rfl g_475 ?_
                            refine OpsD.gn rfl g_475 ?_
                            refine OpsD.gn rfl g_475 ?_
                            refine OpsD.gn rfl g_475 ?_
                            refine OpsD.st (s := 62664) (.pkT rfl g_475 rfl) rfl rfl ?_
                            refine OpsD.p rfl ?_
                            refine OpsD.gn rfl rfl ?_
                            refine OpsD.gn rfl rfl ?_
                            refine OpsD.gn rfl rfl ?_
                            refine OpsD.gn rfl rfl ?_
                            refine OpsD.gn rfl rfl ?_
                            refine OpsD.gn rfl rfl ?_
                            refine OpsD.gn rfl rfl ?_
                            refine OpsD.st (s := 62808) (.pkT rfl rfl rfl) rfl rfl ?_
                            refine OpsD.p rfl ?_
                            refine OpsD.gn rfl rfl ?_
                            refine OpsD.gn rfl rfl ?_
                            refine OpsD.gn rfl rfl ?_
                            refine OpsD.gn rfl rfl ?_
                            refine OpsD.st (s := 62904) (.pkT rfl rfl rfl) rfl rfl ?_
                            refine OpsD.nil ⟨by kernel_rfl, ?_⟩
                            refine Run.condT rfl rfl ?_
                            refine Run.seq ?_
                            refine Run.ops hm ?_
                            refine Ops.p rfl ?_
                            refine Ops.nil ?_
                            refine Run.ret ?_
                            obtain rfl := someO h
                            have h := hk_458
                            replace h := inlO h
                            obtain rfl := someO h
                            exact Ends.mkG (.inl rfl) rfl (gh_pk [0] [] hB rfl rfl rfl rfl) rfl rfl
                          · skip
                            refine OpsD.gp rfl g_475 rfl ?_
                            refine OpsD.gp rfl g_475 rfl ?_
                            refine OpsD.gp rfl g_475 rfl ?_
                            refine OpsD.gp rfl g_475 rfl ?_
                            obtain ⟨y_476, hy_476, h⟩ := bindO h
                            refine OpsD.gs (s := 62632) rfl g_475 (Ev.call [] [] 0 (sem_spec_l01In N x_473.Next (1 : Int) (w64 (y_320.1 + (1 : Int))) _ hy_476) rfl rfl (.cons (.c _) (.cons (.c _) (.cons (.c _) .nil))) rfl (.inl rfl) rfl rfl) rfl rfl ?_
                            refine OpsD.gp rfl g_475 rfl ?_
                            refine OpsD.st (s := 62664) (.pkF rfl g_475 rfl) rfl rfl ?_
                            refine OpsD.p rfl ?_
                            refine OpsD.askO (x := .t 138) rfl h (fun g_477 h => ?_) (fun g_477 h => ?_)
                            · skip
                              refine OpsD.gn rfl g_477 ?_
                              refine OpsD.gn rfl g_477 ?_
                              refine OpsD.gn rfl g_477 ?_
                              refine OpsD.gn rfl g_477 ?_
                              refine OpsD.gn rfl g_477 ?_
                              refine OpsD.gn rfl g_477 ?_
                              refine OpsD.gn rfl g_477 ?_
                              refine OpsD.st (s := 62808) (.pkT rfl g_477 rfl) rfl rfl ?_
                              refine OpsD.p rfl ?_
                              refine OpsD.gn rfl rfl ?_
                              refine OpsD.gn rfl rfl ?_
                              refine OpsD.gn rfl rfl ?_
                              refine OpsD.gn rfl rfl ?_
                              refine OpsD.st (s := 62904) (.pkT rfl rfl rfl) rfl rfl ?_
                              refine OpsD.nil ⟨by kernel_rfl, ?_⟩
                              refine Run.condT rfl rfl ?_
                              refine Run.seq ?_
                              refine Run.ops hm ?_
                              refine Ops.p rfl ?_
                              refine Ops.nil ?_
                              refine Run.ret ?_
                              obtain rfl := someO h
                              have h := hk_458
                              replace h := inlO h
                              obtain rfl := someO h
                              exact Ends.mkG (.inl rfl) rfl (gh_pk [0] [] hB rfl rfl rfl rfl) rfl rfl
                            · skip
                              refine OpsD.gp rfl g_477 rfl ?_
                              refine OpsD.gp rfl g_477 rfl ?_
                              refine OpsD.gp rfl g_477 rfl ?_
                              refine OpsD.gp rfl g_477 rfl ?_
                              refine OpsD.gp rfl g_477 rfl ?_
                              obtain ⟨y_478, hy_478, h⟩ := bindO h
                              refine OpsD.gs (s := 62776) rfl g_477 (Ev.call [] [] 0 (sem_spec_l01In N x_473.Match (0 : Int) (w64 (x_473.Next - (1 : Int))) _ hy_478) rfl rfl (.cons (.c _) (.cons (.c _) (.cons (.c _) .nil))) rfl (.inl rfl) rfl rfl) rfl rfl ?_
                              refine OpsD.gp rfl g_477 rfl ?_
                              refine OpsD.st (s := 62808) (.pkF rfl g_477 rfl) rfl rfl ?_
                              refine OpsD.p rfl ?_
                              refine OpsD.askO (x := .t 147) rfl h (fun g_479 h => ?_) (fun g_479 h => ?_)
                              · skip
                                refine OpsD.gn rfl g_479 ?_
                                refine OpsD.gn rfl g_479 ?_
                                refine OpsD.gn rfl g_479 ?_
                                refine OpsD.gn rfl g_479 ?_
                                refine OpsD.st (s := 62904) (.pkT rfl g_479 rfl) rfl rfl ?_
                                refine OpsD.nil ⟨by kernel_rfl, ?_⟩
                                refine Run.condT rfl rfl ?_
                                refine Run.seq ?_
                                refine Run.ops hm ?_
                                refine Ops.p rfl ?_
                                refine Ops.nil ?_
                                refine Run.ret ?_
                                obtain rfl := someO h
                                have h := hk_458
                                replace h := inlO h
                                obtain rfl := someO h
                                exact Ends.mkG (.inl rfl) rfl (gh_pk [0] [] hB rfl rfl rfl rfl) rfl rfl
                              · skip
                                refine OpsD.gp rfl g_479 rfl ?_
                                refine OpsD.gp rfl g_479 rfl ?_
                                obtain ⟨y_480, hy_480, h⟩ := bindO h
                                refine OpsD.gs (s := 62872) rfl g_479 (Ev.call [] [] 0 (sem_spec_l01In N x_473.Sent (0 : Int) (20000 : Int) _ hy_480) rfl rfl (.cons (.c _) (.cons (.c _) (.cons (.c _) .nil))) rfl (.inl rfl) rfl rfl) rfl rfl ?_
                                refine OpsD.gp rfl g_479 rfl ?_
                                refine OpsD.st (s := 62904) (.pkF rfl g_479 rfl) rfl rfl ?_
                                refine OpsD.nil ⟨by kernel_rfl, ?_⟩
                                refine Run.condO rfl h (fun g_481 h => ?_) (fun g_481 h => ?_)
                                · skip
                                  refine Run.seq ?_
                                  refine Run.ops hm ?_
                                  refine Ops.p rfl ?_
                                  refine Ops.nil ?_
                                  refine Run.ret ?_
                                  obtain rfl := someO h
                                  have h := hk_458
                                  replace h := inlO h
                                  obtain rfl := someO h
                                  exact Ends.mkG (.inl rfl) rfl (gh_pk [0] [] hB rfl rfl rfl rfl) rfl rfl
                                · skip
                                  refine Run.skip ?_
                                  refine Run.ops hm ?_
                                  refine Ops.p rfl ?_
                                  refine Ops.p rfl ?_
                                  refine Ops.p rfl ?_
                                  refine Ops.nil ?_
                                  exact ⟨m_458, Nat.lt_succ_self m_458, _, _, (gh_pk [1, 3, 5, 6] [0, 1] hB rfl rfl rfl rfl), _, h, rfl, rfl⟩
                        · skip
                          refine Run.exit ?_
                          obtain rfl := someO h
                          have h := hk_458
                          replace h := inrO h
                          exact ⟨_, _, (gh_pk [] [] hB rfl rfl rfl rfl), (), h, rfl, rfl⟩
                      · skip
                        refine Run.seq ?_
                        refine Run.ops hm ?_
                        refine Ops.p rfl ?_
                        refine Ops.nil ?_
                        refine Run.ret ?_
                        obtain rfl := someO h
                        exact Ends.mkG (.inl rfl) rfl (gh_pk [0] [] hB rfl rfl rfl rfl) rfl rfl
def spec_NodeNew (N : Nat) (x_1 : Int) (x_2 : (List Int)) : Option (Node × Bool) :=
 (cat? ([] : List Int) x_2).bind fun x_107 =>
 (spec_NodeOk N (Node.mk x_1 (0 : Int) (0 : Int) (0 : Int) (0 : Int) x_107 (Log.mk (0 : Int) (0 : Int) ([])) (0 : Int) (0 : Int) (20 : Int) ([]) ([]))).bind fun y_110 =>
 (if (!y_110) = true then
 some ((Node.mk (0 : Int) (0 : Int) (0 : Int) (0 : Int) (0 : Int) ([]) (Log.mk (0 : Int) (0 : Int) ([])) (0 : Int) (0 : Int) (0 : Int) ([]) ([])), false)
 else
 some ((Node.mk x_1 (0 : Int) (0 : Int) (0 : Int) (0 : Int) x_107 (Log.mk (0 : Int) (0 : Int) ([])) (0 : Int) (0 : Int) (20 : Int) ([]) ([])), true))
theorem sem_spec_NodeNew (N : Nat) (x_1 : Int) (x_2 : (List Int)) (r : Node × Bool) (h : spec_NodeNew N x_1 x_2 = some r) : Says Try.prog 65 [VI x_1, RO 3 (x_2.map encI)] 0 [] (.tup [.agg [VI r.1.Id, VI r.1.Term, VI r.1.Vote, VI r.1.Role, VI r.1.Lead, .sl 0 3 0 r.1.Conf.length, VI r.1.Log.Start, VI r.1.Log.StartTerm, .sl 1 48 0 r.1.Log.Entries.length, VI r.1.Commit, VI r.1.Clock, VI r.1.Limit, .sl 2 3 0 r.1.Votes.length, .sl 3 172 0 r.1.Peers.length], VB r.2]) [(0, .vec 3 (r.1.Conf.map encI)), (1, .vec 48 (r.1.Log.Entries.map encEntry)), (2, .vec 3 (r.1.Votes.map encI)), (3, .vec 172 (r.1.Peers.map encPeer))] := by
  unfold spec_NodeNew at h
  refine Says.of_run s65 Try.call65 rfl fun B hB => ?_
  have hm : B.m ≤ 1000 := by omega
  refine Run.seq ?_
  refine Run.ops hm ?_
  refine Ops.st (s := 1000) (.al rfl rfl) rfl rfl ?_
  refine Ops.p rfl ?_
  refine Ops.nil ?_
  refine Run.seq ?_
  refine Run.ops hm ?_
  refine Ops.p rfl ?_
  refine Ops.st (s := 5112) (Ev.bsW (ys := ([] : List Int)) (f := encI) rfl .nil rfl rfl rfl rfl rfl) rfl rfl ?_
  refine Ops.p rfl ?_
  obtain ⟨x_107, hx_107, h⟩ := bindO h
  refine Ops.st (s := 5144) (Ev.apW (f := encI) (ontoW rfl rfl rfl) (addsF rfl) rfl bt3 rfl hx_107) rfl rfl ?_
  refine Ops.st (s := 5160) (.bd rfl rfl) rfl rfl ?_
  refine Ops.st (s := 5176) (.al rfl rfl) rfl rfl ?_
  refine Ops.s0 (s := 5192) (.sto rfl rfl rfl rfl rfl rfl) rfl rfl ?_
  refine Ops.nil ?_
  refine Run.seq ?_
  refine Run.seq ?_
  refine Run.ops hm ?_
  refine Ops.p rfl ?_
  obtain ⟨y_110, hy_110, h⟩ := bindO h
  refine Ops.st (s := 9208) (Ev.call [] [5144] 0 (sem_spec_NodeOk N (Node.mk x_1 (0 : Int) (0 : Int) (0 : Int) (0 : Int) x_107 (Log.mk (0 : Int) (0 : Int) ([])) (0 : Int) (0 : Int) (20 : Int) ([]) ([])) _ hy_110) rfl rfl (.cons (.agg (.cons (.c _) (.cons (.c _) (.cons (.c _) (.cons (.c _) (.cons (.c _) (.cons (.borrow rfl (by decide) (lendW (fun _ => rfl) _ rfl)) (.cons (.c _) (.cons (.c _) (.cons (.nil _ _) (.cons (.c _) (.cons (.c _) (.cons (.c _) (.cons (.nil _ _) (.cons (.nil _ _) .nil))))))))))))))) .nil) rfl (.inr ⟨rfl, ownL_root trivial⟩) rfl rfl) rfl rfl ?_
  refine Ops.p rfl ?_
  refine Ops.nil ?_
  refine Run.condO rfl h (fun g_111 h => ?_) (fun g_111 h => ?_)
  · skip
    refine Run.seq ?_
    refine Run.ops hm ?_
    refine Ops.st (s := 13288) (.bd rfl rfl) rfl rfl ?_
    refine Ops.s0 (s := 13304) (.sto rfl rfl rfl rfl rfl rfl) rfl rfl ?_
    refine Ops.p rfl ?_
    refine Ops.nil ?_
    refine Run.ret ?_
    obtain rfl := someO h
    exact Ends.mkG (.inl rfl) rfl (Gh.trans (Gh.trans (gh_prn [0, 1] [] hB rfl) (gh_nil [0] [] hB rfl rfl rfl)) (gh_pk [0, 1] [10000000, 10000001, 10000002, 10000003] hB rfl rfl rfl rfl)) rfl rfl
  · skip
    refine Run.skip ?_
    refine Run.seq ?_
    refine Run.ops hm ?_
    refine Ops.p rfl ?_
    refine Ops.s0 (s := 17400) (.sto rfl rfl rfl rfl rfl rfl) rfl rfl ?_
    refine Ops.p rfl ?_
    refine Ops.nil ?_
    refine Run.ret ?_
    obtain rfl := someO h
    exact Ends.mkG (.inl rfl) rfl (Gh.trans (Gh.trans (gh_prn [0, 1] [5144] hB rfl) (gh_nil [0] [] hB rfl rfl rfl)) (gh_pk [0, 1] [5144, 10000000, 10000001, 10000002] hB rfl rfl rfl rfl)) rfl rfl
def impl_within (N : Nat) (x_1 : Int) (x_2 : Int) (x_3 : Int) : Option (Bool) :=
 (if (decide (x_1 ≥ x_2)) = true then
 some (decide (x_1 ≤ x_3))
 else
 some false)
theorem sem_impl_within (N : Nat) (x_1 : Int) (x_2 : Int) (x_3 : Int) (r : Bool) (h : impl_within N x_1 x_2 x_3 = some r) : Says Try.prog 98 [VI x_1, VI x_2, VI x_3] 0 [] (VB r) [] := by
  unfold impl_within at h
  refine Says.of_run s98 Try.call98 rfl fun B hB => ?_
  have hm : B.m ≤ 1000 := by omega
  refine Run.seq ?_
  refine Run.ops hm ?_
  refine Ops.p rfl ?_
  refine Ops.nil ?_
  refine Run.seq ?_
  refine Run.ops hm ?_
  refine Ops.p rfl ?_
  refine Ops.p rfl ?_
  refine Ops.p rfl ?_
  refine Ops.p rfl ?_
  refine Ops.askO (x := .t 10) rfl h (fun g_101 h => ?_) (fun g_101 h => ?_)
  · skip
    refine Ops.gp rfl g_101 rfl ?_
    refine Ops.gp rfl g_101 rfl ?_
    refine Ops.gp rfl g_101 rfl ?_
    refine Ops.st (s := 5208) (.pkT rfl g_101 rfl) rfl rfl ?_
    refine Ops.p rfl ?_
    refine Ops.nil ?_
    refine Run.ret ?_
    obtain rfl := someO h
    exact Ends.mkG (.inl rfl) rfl (gh_pk [0] [] hB rfl rfl rfl rfl) rfl rfl
  · skip
    refine Ops.gn rfl g_101 ?_
    refine Ops.gn rfl g_101 ?_
    refine Ops.gn rfl g_101 ?_
    refine Ops.st (s := 5208) (.pkF rfl g_101 rfl) rfl rfl ?_
    refine Ops.p rfl ?_
    refine Ops.nil ?_
    refine Run.ret ?_
    obtain rfl := someO h
    exact Ends.mkG (.inl rfl) rfl (gh_pk [0] [] hB rfl rfl rfl rfl) rfl rfl
def impl_ConfOk_l1 (N : Nat) (x_1 : (List Int)) : Nat → Int → Option ((Bool) ⊕ (Unit))
 | 0, _ => none
 | m + 1, x_181 =>
 (if (decide (x_181 < (x_1.length : Int))) = true then
 (at? x_1 x_181).bind fun x_197 =>
 (impl_within N x_197 (1 : Int) (4 : Int)).bind fun y_198 =>
 (if (!y_198) = true then
 some (Sum.inl false)
 else
 (if (decide (x_181 > (0 : Int))) = true then
 (at? x_1 (w64 (x_181 - (1 : Int)))).bind fun x_201 =>
 (if (decide (x_201 ≥ x_197)) = true then
 some (Sum.inl false)
 else
 impl_ConfOk_l1 N x_1 m (w64 (x_181 + (1 : Int))))
 else
 impl_ConfOk_l1 N x_1 m (w64 (x_181 + (1 : Int)))))
 else
 some (Sum.inr ()))
def impl_ConfOk_l1_r (N : Nat) (x_1 : (List Int)) : (List Int) → Int → Option ((Bool) ⊕ (Unit))
 | [], x_181 =>
 some (Sum.inr ())
 | hd :: tl, x_181 =>
 (some hd).bind fun x_197 =>
 (impl_within N x_197 (1 : Int) (4 : Int)).bind fun y_198 =>
 (if (!y_198) = true then
 some (Sum.inl false)
 else
 (if (decide (x_181 > (0 : Int))) = true then
 (at? x_1 (w64 (x_181 - (1 : Int)))).bind fun x_201 =>
 (if (decide (x_201 ≥ x_197)) = true then
 some (Sum.inl false)
 else
 impl_ConfOk_l1_r N x_1 tl (w64 (x_181 + (1 : Int))))
 else
 impl_ConfOk_l1_r N x_1 tl (w64 (x_181 + (1 : Int)))))
theorem impl_ConfOk_l1_rng (N : Nat) (x_1 : (List Int)) (hx : x_1.length ≤ 1099511627776) : ∀ (d k m : Nat), x_1.length = k + d → d < m → impl_ConfOk_l1 N x_1 m (k : Int) = impl_ConfOk_l1_r N x_1 (x_1.drop k) (k : Int) := by
  intro d
  induction d with
  | zero =>
    intro k m hd hm
    obtain ⟨m, rfl⟩ : ∃ q, m = q + 1 := ⟨m - 1, by omega⟩
    rw [impl_ConfOk_l1, if_neg (by simp; omega), List.drop_eq_nil_of_le (by omega), impl_ConfOk_l1_r]
  | succ d ih =>
    intro k m hd hm
    obtain ⟨m, rfl⟩ : ∃ q, m = q + 1 := ⟨m - 1, by omega⟩
    have hk : k < x_1.length := by omega
    rw [impl_ConfOk_l1, if_pos (by simp; omega), List.drop_eq_getElem_cons hk, impl_ConfOk_l1_r]
    have h1 := at_lt hk
    have h2 := w64_succ (k := k) (by omega)
    have h3 := ih (k + 1) m
    simp only [h1, h2, h3 (by omega) (by omega)]
theorem impl_ConfOk_l1_eq {N : Nat} (x_1 : (List Int)) (hx : x_1.length ≤ 1099511627776) (hN : x_1.length < N) : impl_ConfOk_l1 N x_1 N 0 = impl_ConfOk_l1_r N x_1 x_1 0 := impl_ConfOk_l1_rng N x_1 hx x_1.length 0 N (by omega) hN
def impl_ConfOk (N : Nat) (x_1 : (List Int)) : Option (Bool) :=
 joinP (fun (v_177 : Unit) =>
 (impl_within N (x_1.length : Int) (1 : Int) (4 : Int)).bind fun y_203 =>
 some y_203) fun j_177 =>
 (impl_ConfOk_l1 N x_1 N (0 : Int)).bind (Sum.elim (fun v_191 => some v_191) (fun (v_192 : Unit) => j_177 ()))
theorem sem_impl_ConfOk (N : Nat) (x_1 : (List Int)) (r : Bool) (h : impl_ConfOk N x_1 = some r) : Says Try.prog 100 [RO 3 (x_1.map encI)] 0 [] (VB r) [] := by
  unfold impl_ConfOk at h
  refine Says.of_run s100 Try.call100 rfl fun B hB => ?_
  have hm : B.m ≤ 1000 := by omega
  refine Run.seq ?_
  refine Run.ops hm ?_
  refine Ops.p rfl ?_
  refine Ops.nil ?_
  refine Run.seqO h (fun (v_177 : Unit) => [(0, RO 3 (x_1.map encI))]) (fun (v_177 : Unit) => []) (fun h => ?_) (fun v_177 h => ?_)
  · skip
    refine Run.seq ?_
    refine Run.ops hm ?_
    refine Ops.p rfl ?_
    refine Ops.st (s := 5112) (Ev.lnF rfl) rfl rfl ?_
    refine Ops.p rfl ?_
    refine Ops.nil ?_
    refine Run.block ?_
    obtain ⟨res_192, h, hk_192⟩ := bindO h
    refine Run.loop (n := N) (fun m_192 fr σ => ∃ (x_181 : Int), impl_ConfOk_l1 N x_1 m_192 x_181 = some res_192 ∧ fr = [(0, RO 3 (x_1.map encI)), (5, RO 3 (x_1.map encI)), (6, VI (x_1.length : Int)), (7, VI x_181)] ∧ σ = []) (gh_pk [0, 5, 6, 7] [] hB rfl rfl rfl rfl) ⟨_, h, rfl, rfl⟩ ?_
    rintro m_192 fr σ ⟨x_181, h, rfl, rfl⟩
    obtain _ | m_192 := m_192
    · rw [impl_ConfOk_l1] at h; cases h
    rw [impl_ConfOk_l1] at h
    refine Run.seq ?_
    refine Run.ops hm ?_
    refine Ops.p rfl ?_
    refine Ops.nil ?_
    refine Run.seq ?_
    refine Run.condO rfl h (fun g_195 h => ?_) (fun g_195 h => ?_)
    · skip
      refine Run.skip ?_
      refine Run.seq ?_
      refine Run.block ?_
      refine Run.seq ?_
      refine Run.ops hm ?_
      refine Ops.p rfl ?_
      obtain ⟨x_197, hx_197, h⟩ := bindO h
      refine Ops.st (s := 13304) (Ev.iaF rfl rfl hx_197) rfl rfl ?_
      refine Ops.p rfl ?_
      refine Ops.p rfl ?_
      refine Ops.p rfl ?_
      refine Ops.nil ?_
      refine Run.seq ?_
      refine Run.ops hm ?_
      refine Ops.p rfl ?_
      obtain ⟨y_198, hy_198, h⟩ := bindO h
      refine Ops.st (s := 17400) (Ev.call [] [] 0 (sem_impl_within N x_197 (1 : Int) (4 : Int) _ hy_198) rfl rfl (.cons (.c _) (.cons (.c _) (.cons (.c _) .nil))) rfl (.inl rfl) rfl rfl) rfl rfl ?_
      refine Ops.p rfl ?_
      refine Ops.p rfl ?_
      refine Ops.askO (x := .t 15) rfl h (fun g_199 h => ?_) (fun g_199 h => ?_)
      · skip
        refine Ops.gn rfl g_199 ?_
        refine Ops.gn rfl g_199 ?_
        refine Ops.gn rfl g_199 ?_
        refine Ops.gu rfl ?_
        refine Ops.gu rfl ?_
        refine Ops.gu rfl ?_
        refine Ops.gu rfl ?_
        refine Ops.gu rfl ?_
        refine Ops.gu rfl ?_
        refine Ops.gu rfl ?_
        refine Ops.gn rfl g_199 ?_
        refine Ops.st (s := 17624) (.pkT rfl g_199 rfl) rfl rfl ?_
        refine Ops.nil ?_
        refine Run.condT rfl rfl ?_
        refine Run.seq ?_
        refine Run.ops hm ?_
        refine Ops.p rfl ?_
        refine Ops.nil ?_
        refine Run.ret ?_
        obtain rfl := someO h
        have h := hk_192
        replace h := inlO h
        obtain rfl := someO h
        exact Ends.mkG (.inl rfl) rfl (gh_pk [0] [] hB rfl rfl rfl rfl) rfl rfl
      · skip
        refine Ops.gp rfl g_199 rfl ?_
        refine Ops.gp rfl g_199 rfl ?_
        refine Ops.gp rfl g_199 rfl ?_
        refine Ops.askO (x := .t 18) rfl h (fun g_200 h => ?_) (fun g_200 h => ?_)
        · skip
          refine Ops.gp rfl g_200 rfl ?_
          refine Ops.gp rfl g_200 rfl ?_
          refine Ops.gp rfl g_200 rfl ?_
          obtain ⟨x_201, hx_201, h⟩ := bindO h
          refine Ops.gs (s := 17544) rfl g_200 (Ev.iaF rfl rfl hx_201) rfl rfl ?_
          refine Ops.gp rfl g_200 rfl ?_
          refine Ops.gp rfl g_200 rfl ?_
          refine Ops.gp rfl g_200 rfl ?_
          refine Ops.gs (s := 17608) rfl g_199 (.pkT rfl g_200 rfl) rfl rfl ?_
          refine Ops.st (s := 17624) (.pkF rfl g_199 rfl) rfl rfl ?_
          refine Ops.nil ?_
          refine Run.condO rfl h (fun g_202 h => ?_) (fun g_202 h => ?_)
          · skip
            refine Run.seq ?_
            refine Run.ops hm ?_
            refine Ops.p rfl ?_
            refine Ops.nil ?_
            refine Run.ret ?_
            obtain rfl := someO h
            have h := hk_192
            replace h := inlO h
            obtain rfl := someO h
            exact Ends.mkG (.inl rfl) rfl (gh_pk [0] [] hB rfl rfl rfl rfl) rfl rfl
          · skip
            refine Run.skip ?_
            refine Run.ops hm ?_
            refine Ops.p rfl ?_
            refine Ops.p rfl ?_
            refine Ops.nil ?_
            exact ⟨m_192, Nat.lt_succ_self m_192, _, _, (gh_pk [0, 5, 6, 7] [] hB rfl rfl rfl rfl), _, h, rfl, rfl⟩
        · skip
          refine Ops.gn rfl g_200 ?_
          refine Ops.gn rfl g_200 ?_
          refine Ops.gn rfl g_200 ?_
          refine Ops.gn rfl g_200 ?_
          refine Ops.gn rfl g_200 ?_
          refine Ops.gn rfl g_200 ?_
          refine Ops.gn rfl g_200 ?_
          refine Ops.gs (s := 17608) rfl g_199 (.pkF rfl g_200 rfl) rfl rfl ?_
          refine Ops.st (s := 17624) (.pkF rfl g_199 rfl) rfl rfl ?_
          refine Ops.nil ?_
          refine Run.condF rfl rfl ?_
          refine Run.skip ?_
          refine Run.ops hm ?_
          refine Ops.p rfl ?_
          refine Ops.p rfl ?_
          refine Ops.nil ?_
          exact ⟨m_192, Nat.lt_succ_self m_192, _, _, (gh_pk [0, 5, 6, 7] [] hB rfl rfl rfl rfl), _, h, rfl, rfl⟩
    · skip
      refine Run.exit ?_
      obtain rfl := someO h
      have h := hk_192
      replace h := inrO h
      exact ⟨_, _, (gh_pk [0] [] hB rfl rfl rfl rfl), (), h, rfl, rfl⟩
  · skip
    refine Run.seq ?_
    refine Run.ops hm ?_
    refine Ops.p rfl ?_
    refine Ops.st (s := 29688) (Ev.lnF rfl) rfl rfl ?_
    obtain ⟨y_203, hy_203, h⟩ := bindO h
    refine Ops.st (s := 29704) (Ev.call [] [] 0 (sem_impl_within N (x_1.length : Int) (1 : Int) (4 : Int) _ hy_203) rfl rfl (.cons (.c _) (.cons (.c _) (.cons (.c _) .nil))) rfl (.inl rfl) rfl rfl) rfl rfl ?_
    refine Ops.p rfl ?_
    refine Ops.nil ?_
    refine Run.ret ?_
    obtain rfl := someO h
    exact Ends.mkG (.inl rfl) rfl (gh_pk [0] [] hB rfl rfl rfl rfl) rfl rfl
def impl_ReadConf_l1 (N : Nat) (x_1 : ByteArray) : Nat → Int → (List Int) → Option ((List Int))
 | 0, _, _ => none
 | m + 1, x_158, x_159 =>
 (if (decide (x_158 < (x_1.size : Int))) = true then
 (sat? x_1 x_158).bind fun x_172 =>
 (cat? x_159 ([w64 (x_172)] : List Int)).bind fun x_173 =>
 impl_ReadConf_l1 N x_1 m (w64 (x_158 + (1 : Int))) x_173
 else
 some x_159)
def impl_ReadConf (N : Nat) (x_1 : ByteArray) : Option ((List Int) × Bool) :=
 joinP (fun (v_156 : (List Int)) =>
 (impl_ConfOk N v_156).bind fun y_176 =>
 (if (!y_176) = true then
 some ([], false)
 else
 some (v_156, true))) fun j_156 =>
 (impl_ReadConf_l1 N x_1 N (0 : Int) ([] : (List Int))).bind (fun (v_166 : (List Int)) => j_156 v_166)
theorem sem_impl_ReadConf (N : Nat) (x_1 : ByteArray) (r : (List Int) × Bool) (h : impl_ReadConf N x_1 = some r) : Says Try.prog 108 [VS x_1] 0 [] (.tup [.sl 0 3 0 r.1.length, VB r.2]) [(0, .vec 3 (r.1.map encI))] := by
  unfold impl_ReadConf at h
  refine Says.of_run s108 Try.call108 rfl fun B hB => ?_
  have hm : B.m ≤ 1000 := by omega
  refine Run.seq ?_
  refine Run.ops hm ?_
  refine Ops.p rfl ?_
  refine Ops.p rfl ?_
  refine Ops.nil ?_
  refine Run.seq ?_
  refine Run.ops hm ?_
  refine Ops.p rfl ?_
  refine Ops.nil ?_
  refine Run.seqO h (fun (v_156 : (List Int)) => [(4, .sl 0 3 0 v_156.length)]) (fun (v_156 : (List Int)) => [(0, .vec 3 (v_156.map encI))]) (fun h => ?_) (fun v_156 h => ?_)
  · skip
    refine Run.seq ?_
    refine Run.ops hm ?_
    refine Ops.p rfl ?_
    refine Ops.nil ?_
    refine Run.block ?_
    obtain ⟨res_166, h, hk_166⟩ := bindO h
    refine Run.loop (n := N) (fun m_166 fr σ => ∃ (x_158 : Int), ∃ (x_159 : (List Int)), impl_ReadConf_l1 N x_1 m_166 x_158 x_159 = some res_166 ∧ fr = [(0, VS x_1), (4, .sl 0 3 0 x_159.length), (5, VI x_158)] ∧ σ = [(0, .vec 3 (x_159.map encI))]) (Gh.trans (Gh.trans (gh_prn [0, 4, 5] [] hB rfl) (gh_nil [4] [] hB rfl rfl rfl)) (gh_pk [0, 4, 5] [10000000] hB rfl rfl rfl rfl)) ⟨_, _, h, rfl, rfl⟩ ?_
    rintro m_166 fr σ ⟨x_158, x_159, h, rfl, rfl⟩
    obtain _ | m_166 := m_166
    · rw [impl_ReadConf_l1] at h; cases h
    rw [impl_ReadConf_l1] at h
    refine Run.seq ?_
    refine Run.seq ?_
    refine Run.ops hm ?_
    refine Ops.p rfl ?_
    refine Ops.p rfl ?_
    refine Ops.p rfl ?_
    refine Ops.p rfl ?_
    refine Ops.nil ?_
    refine Run.condO rfl h (fun g_169 h => ?_) (fun g_169 h => ?_)
    · skip
      refine Run.skip ?_
      refine Run.seq ?_
      refine Run.block ?_
      refine Run.ops hm ?_
      refine Ops.p rfl ?_
      refine Ops.p rfl ?_
      refine Ops.p rfl ?_
      obtain ⟨x_172, hx_172, h⟩ := bindO h
      refine Ops.st (s := 21528) (Ev.ixS rfl rfl hx_172) rfl rfl ?_
      refine Ops.p rfl ?_
      refine Ops.st (s := 21560) (Ev.bsW (ys := ([w64 (x_172)] : List Int)) (f := encI) rfl (.cons (.c _) .nil) rfl rfl rfl rfl rfl) rfl rfl ?_
      obtain ⟨x_173, hx_173, h⟩ := bindO h
      refine Ops.st (s := 21576) (Ev.apW (f := encI) (ontoW rfl rfl rfl) (addsW rfl rfl rfl (fun _ => rfl)) rfl bt3 rfl hx_173) rfl rfl ?_
      refine Ops.p rfl ?_
      refine Ops.nil ?_
      refine Run.ops hm ?_
      refine Ops.p rfl ?_
      refine Ops.p rfl ?_
      refine Ops.p rfl ?_
      refine Ops.nil ?_
      exact ⟨m_166, Nat.lt_succ_self m_166, _, _, (gh_pk [0, 4, 5] [21576] hB rfl rfl rfl rfl), _, _, h, rfl, rfl⟩
    · skip
      refine Run.exit ?_
      obtain rfl := someO h
      have h := hk_166
      exact ⟨_, _, (gh_pk [4] [0] hB rfl rfl rfl rfl), x_159, h, rfl, rfl⟩
  · skip
    refine Run.seq ?_
    refine Run.seq ?_
    refine Run.ops hm ?_
    refine Ops.p rfl ?_
    obtain ⟨y_176, hy_176, h⟩ := bindO h
    refine Ops.st (s := 25592) (Ev.call [] [0] 0 (sem_impl_ConfOk N v_156 _ hy_176) rfl rfl (.cons (.borrow rfl (by decide) (lendW (fun _ => rfl) _ rfl)) .nil) rfl (.inr ⟨rfl, ownL_root trivial⟩) rfl rfl) rfl rfl ?_
    refine Ops.p rfl ?_
    refine Ops.nil ?_
    refine Run.condO rfl h (fun g_177 h => ?_) (fun g_177 h => ?_)
    · skip
      refine Run.seq ?_
      refine Run.ops hm ?_
      refine Ops.p rfl ?_
      refine Ops.p rfl ?_
      refine Ops.nil ?_
      refine Run.ret ?_
      obtain rfl := someO h
      exact Ends.mkG (.inl rfl) rfl (Gh.trans (Gh.trans (gh_prn [0, 1] [] hB rfl) (gh_nil [0] [] hB rfl rfl rfl)) (gh_pk [0, 1] [10000000] hB rfl rfl rfl rfl)) rfl rfl
    · skip
      refine Run.skip ?_
      refine Run.seq ?_
      refine Run.ops hm ?_
      refine Ops.p rfl ?_
      refine Ops.p rfl ?_
      refine Ops.p rfl ?_
      refine Ops.nil ?_
      refine Run.ret ?_
      obtain rfl := someO h
      exact Ends.mkG (.inl rfl) rfl (gh_pk [0, 1] [0] hB rfl rfl rfl rfl) rfl rfl
end Go.Proofs.Ytebbgdjmplceiaa.Pe.FnExactNodeNew
