/- Part of a proof: see Root. -/
import Derived.Test.YtnfendddolhcoaaGreatDoorW26
set_option linter.unnecessarySimpa false
set_option linter.unusedSectionVars false
set_option linter.unusedSimpArgs false
set_option linter.unusedVariables false
namespace Go.Proofs.YtnfendddolhcoaaGreatDoor
open Go.AM
set_option maxRecDepth 1000000 in
set_option maxHeartbeats 0 in
theorem law26_lives : CallF Tryz.prog n_law26_lives [] (.bool true) := CallF.of_runM 80 rfl rfl (by kernel_rfl)
end Go.Proofs.YtnfendddolhcoaaGreatDoor
namespace Go.Proofs.YtnfendddolhcoaaGreatDoor
open Go.AM
set_option maxRecDepth 4000
def zMark : AV := .agg [I 0, I 0, .str [], .str []]
def zTab : AV := .agg [.str [], .nils, .nils, I 0, I 0, .nils]
def zEnt : AV := .agg [.str [], I 0, .nils, I 0, .nils, .nils]
def zRepo : List AV := [.nilp]
section
variable (t : Table) (s : Str) (v k l : Int) (row : List Val)
theorem nil_ROpen : CallF Tryz.prog n_repo_Open [.nilp] (.tup [.nilp, I 1]) := CallF.of_run 9 rfl rfl (by kernel_rfl)
theorem nil_RPublish : CallF Tryz.prog n_repo_Repo_Publish [.nilp, eTable t] (.tup [I 0, I 1]) := CallF.of_run 9 (by simp [AV.purL, AV.pur]) rfl (by kernel_rfl)
theorem zero_RPublish : CallM Tryz.prog n_repo_Repo_Publish 0 [eTable t] zRepo zRepo (.tup [I 0, I 1]) := CallM.of_run 9 (by simp [AV.purL, AV.pur]) rfl rfl (by kernel_rfl)
theorem nil_RVersion : CallF Tryz.prog n_repo_Repo_Version [.nilp, .str s, I v] (.tup [zTab, I 0, I 1]) := CallF.of_run 9 rfl rfl (by kernel_rfl)
theorem zero_RVersion : CallM Tryz.prog n_repo_Repo_Version 0 [.str s, I v] zRepo zRepo (.tup [zTab, I 0, I 1]) := CallM.of_run 9 rfl rfl rfl (by kernel_rfl)
theorem nil_RList : CallF Tryz.prog n_repo_Repo_List [.nilp] (.tup [.nils, I 1]) := CallF.of_run 9 rfl rfl (by kernel_rfl)
theorem zero_RList : CallM Tryz.prog n_repo_Repo_List 0 [] zRepo zRepo (.tup [.nils, I 1]) := CallM.of_run 9 rfl rfl rfl (by kernel_rfl)
theorem nil_RDecide : CallF Tryz.prog n_repo_Repo_Decide [.nilp, .str s, I v, eVals row] (.tup [zEnt, I 0, I 1]) := CallF.of_run 9 (by simp [AV.purL, AV.pur]) rfl (by kernel_rfl)
theorem zero_RDecide : CallM Tryz.prog n_repo_Repo_Decide 0 [.str s, I v, eVals row] zRepo zRepo (.tup [zEnt, I 0, I 1]) := CallM.of_run 9 (by simp [AV.purL, AV.pur]) rfl rfl (by kernel_rfl)
theorem nil_RLog : CallF Tryz.prog n_repo_Repo_Log [.nilp, I k, I l] (.tup [.nils, I 1]) := CallF.of_run 9 rfl rfl (by kernel_rfl)
theorem zero_RLog : CallM Tryz.prog n_repo_Repo_Log 0 [I k, I l] zRepo zRepo (.tup [.nils, I 1]) := CallM.of_run 9 rfl rfl rfl (by kernel_rfl)
theorem nil_RMark : CallF Tryz.prog n_repo_Repo_Mark [.nilp] (.tup [zMark, I 1]) := CallF.of_run 9 rfl rfl (by kernel_rfl)
theorem zero_RMark : CallM Tryz.prog n_repo_Repo_Mark 0 [] zRepo zRepo (.tup [zMark, I 1]) := CallM.of_run 9 rfl rfl rfl (by kernel_rfl)
theorem nil_RAudit : CallF Tryz.prog n_repo_Repo_Audit [.nilp] (.tup [I 0, I 1]) := CallF.of_run 9 rfl rfl (by kernel_rfl)
theorem zero_RAudit : CallM Tryz.prog n_repo_Repo_Audit 0 [] zRepo zRepo (.tup [I 0, I 1]) := CallM.of_run 9 rfl rfl rfl (by kernel_rfl)
theorem nil_RCompact : CallF Tryz.prog n_repo_Repo_Compact [.nilp, I k] (I 1) := CallF.of_run 9 rfl rfl (by kernel_rfl)
theorem zero_RCompact : CallM Tryz.prog n_repo_Repo_Compact 0 [I k] zRepo zRepo (I 1) := CallM.of_run 9 rfl rfl rfl (by kernel_rfl)
theorem nil_RSync : CallF Tryz.prog n_repo_Repo_Sync [.nilp] (I 1) := CallF.of_run 9 rfl rfl (by kernel_rfl)
theorem zero_RSync : CallM Tryz.prog n_repo_Repo_Sync 0 [] zRepo zRepo (I 1) := CallM.of_run 9 rfl rfl rfl (by kernel_rfl)
end
set_option maxHeartbeats 8000000 in
theorem law26_RepoNil (a : Act) (made : Bool) : CallF Tryz.prog n_law26_RepoNil [eAct a, .bool made] (.bool true) := by
  have c0 := law25_Few a
  have cL := law26_lives
  generalize fewA a = f at c0
  have p0 := nil_ROpen
  have p1 := nil_RPublish a.table
  have p2 := nil_RVersion a.name a.ver
  have p3 := nil_RList
  have p4 := nil_RDecide a.name a.ver a.row
  have p5 := nil_RLog a.n a.m
  have p6 := nil_RMark
  have p7 := nil_RAudit
  have p8 := nil_RCompact a.n
  have p9 := nil_RSync
  have q1 := zero_RPublish a.table
  have q2 := zero_RVersion a.name a.ver
  have q3 := zero_RList
  have q4 := zero_RDecide a.name a.ver a.row
  have q5 := zero_RLog a.n a.m
  have q6 := zero_RMark
  have q7 := zero_RAudit
  have q8 := zero_RCompact a.n
  have q9 := zero_RSync
  simp only [eAct, cAct, eTable, cTable, eCols, eRules, eVals, zTab, zMark, zEnt, zRepo] at *
  refine CallF.of_nil (of_law26_RepoNil (by simp) ?_) (by simp [AV.purL, AV.pur])
  unfold b_law26_RepoNil WpR
  intro Q hQr hQn hQp
  cases f <;> cases made
  · repeat' first | refine go_ ?_ | refine cf_ c0 ?_ | refine cf_ cL ?_ | refine br_ (fun hw => ?_) (fun hw => ?_) <;> try omega | fail
    all_goals first | exact ab_ | exact leafE rfl rfl
  · repeat' first | refine go_ ?_ | refine cf_ c0 ?_ | refine cf_ cL ?_ | refine br_ (fun hw => ?_) (fun hw => ?_) <;> try omega | fail
    all_goals first | exact ab_ | exact leafE rfl rfl
  · repeat' first | refine go_ ?_ | refine cf_ c0 ?_ | refine cf_ cL ?_ | refine cf_ p0 ?_ | refine cf_ p1 ?_ | refine cf_ p2 ?_ | refine cf_ p3 ?_ | refine cf_ p4 ?_ | refine cf_ p5 ?_ | refine cf_ p6 ?_ | refine cf_ p7 ?_ | refine cf_ p8 ?_ | refine cf_ p9 ?_ | refine br_ (fun hw => ?_) (fun hw => ?_) <;> try omega | fail
    all_goals first | exact ab_ | exact leafE rfl rfl
  · repeat' first | refine go_ ?_ | refine cf_ c0 ?_ | refine cf_ cL ?_ | refine cf_ p0 ?_ | refine cm_ q1 ?_ | refine cm_ q2 ?_ | refine cm_ q3 ?_ | refine cm_ q4 ?_ | refine cm_ q5 ?_ | refine cm_ q6 ?_ | refine cm_ q7 ?_ | refine cm_ q8 ?_ | refine cm_ q9 ?_ | refine br_ (fun hw => ?_) (fun hw => ?_) <;> try omega | fail
    all_goals first | exact ab_ | exact leafE rfl rfl
end Go.Proofs.YtnfendddolhcoaaGreatDoor
