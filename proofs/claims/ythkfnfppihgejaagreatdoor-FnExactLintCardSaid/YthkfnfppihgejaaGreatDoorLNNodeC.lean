/- Nodes: the program's and the reference's tell the same (printed by nodec.py). -/
import Derived.Test.YthkfnfppihgejaaGreatDoorLNNodeB
namespace Go.Proofs.YthkfnfppihgejaaGreatDoor.LN
open Go Go.VS Go.Lib
set_option maxRecDepth 10000
set_option maxHeartbeats 8000000
set_option linter.unusedSimpArgs false
set_option linter.unusedVariables false
noncomputable def namesB (l : List ByteArray) (most : Int) : Bool := goodNames [] l && decide ((l.length : Int) ≤ most)
/-- Is a node right by itself? -/
noncomputable def nodeB (x : KNode) : Bool :=
  if x.kind = 9 then primB x else 
  if x.kind = 1 then (within (-1000000) 1000000 x.n && decide (x.s = ⟨#[]⟩) && decide (x.names = []) && decide (x.args = [])) else 
  if x.kind = 2 then (within 0 1 x.n && decide (x.s = ⟨#[]⟩) && decide (x.names = []) && decide (x.args = [])) else 
  if x.kind = 3 then (decide (x.n = 0) && decide (x.s = ⟨#[]⟩) && decide (x.names = []) && decide (x.args = [])) else 
  if x.kind = 4 then (decide (x.n = 0) && sym x.s && decide (x.names = []) && decide (x.args = [])) else 
  if x.kind = 5 then (decide (x.n = 0) && isName x.s && decide (x.names = []) && decide (x.args = [])) else 
  if x.kind = 6 then (decide (x.n = 0) && decide (x.s = ⟨#[]⟩) && decide (x.names = []) && decide (x.args.length = 3)) else 
  if x.kind = 7 then (decide (x.n = 0) && decide (x.s = ⟨#[]⟩) && namesB x.names 8 && decide (x.args.length = 1)) else 
  if x.kind = 8 then (decide (x.n = 0) && decide (x.s = ⟨#[]⟩) && decide (x.names = []) && within 1 9 x.args.length) else 
  if x.kind = 10 then (decide (x.n = 0) && isName x.s && decide (x.names = []) && decide (x.args.length = 1)) else 
  if x.kind = 11 then (decide (x.n = 0) && decide (x.s = ⟨#[]⟩) && decide (x.names = []) && decide (2 ≤ x.args.length)) else false
theorem l3Node (x : KNode) (hs : (x.s.size : Int) ≤ 1000000000) (hl : (x.names.length : Int) ≤ 1048576) (hu : (strsU x.names : Int) ≤ 1048576) : A 74 [.agg (KNode.row false x)] = some ([.leaf (.bool (nodeB x))], [.gone]) := by
 have hP := l3Prim x hs hu
 have hN : A 94 [.leaf (Kstrs false x.names), .leaf (.int .i64 8)] = some ([.leaf (.bool (namesB x.names 8))], [.gone, .gone]) := l3Names x.names 8 hl hu
 have hI := specIsName x.s hs
 have hS := l2Sym x.s (by omega)
 clear hs hl hu
 refine run_spec_l3Node ?_
 simp (maxSteps := 1000000) (disch := omega) [ip, wr, spec_l3Node.b]
 by_cases k1 : x.kind = 1
 ·by_cases h0_ : x.names = []
  ·by_cases h1_ : x.args = []
   ·by_cases h2_ : x.s = ⟨#[]⟩
    ·by_cases h3_ : within (-1000000) 1000000 x.n = true
     ·simp (maxSteps := 1000000) (disch := omega) [ip, wr, nodeB, k1, l1In', hN, hI, hS, h0_, h1_, h2_, h3_]
     ·simp (maxSteps := 1000000) (disch := omega) [ip, wr, nodeB, k1, l1In', hN, hI, hS, h0_, h1_, h2_, h3_]
    ·simp (maxSteps := 1000000) (disch := omega) [ip, wr, nodeB, k1, l1In', hN, hI, hS, h0_, h1_, h2_]
   ·simp (maxSteps := 1000000) (disch := omega) [ip, wr, nodeB, k1, l1In', hN, hI, hS, h0_, h1_]
  ·simp (maxSteps := 1000000) (disch := omega) [ip, wr, nodeB, k1, l1In', hN, hI, hS, h0_]
 ·simp (maxSteps := 1000000) (disch := omega) [ip, wr, k1]
  by_cases k2 : x.kind = 2
  ·by_cases h0_ : x.names = []
   ·by_cases h1_ : x.args = []
    ·by_cases h2_ : x.s = ⟨#[]⟩
     ·by_cases h3_ : within 0 1 x.n = true
      ·simp (maxSteps := 1000000) (disch := omega) [ip, wr, nodeB, k2, l1In', hN, hI, hS, h0_, h1_, h2_, h3_]
      ·simp (maxSteps := 1000000) (disch := omega) [ip, wr, nodeB, k2, l1In', hN, hI, hS, h0_, h1_, h2_, h3_]
     ·simp (maxSteps := 1000000) (disch := omega) [ip, wr, nodeB, k2, l1In', hN, hI, hS, h0_, h1_, h2_]
    ·simp (maxSteps := 1000000) (disch := omega) [ip, wr, nodeB, k2, l1In', hN, hI, hS, h0_, h1_]
   ·simp (maxSteps := 1000000) (disch := omega) [ip, wr, nodeB, k2, l1In', hN, hI, hS, h0_]
  ·simp (maxSteps := 1000000) (disch := omega) [ip, wr, k2]
   by_cases k3 : x.kind = 3
   ·by_cases h0_ : x.names = []
    ·by_cases h1_ : x.args = []
     ·by_cases h2_ : x.s = ⟨#[]⟩
      ·by_cases h3_ : x.n = 0
       ·simp (maxSteps := 1000000) (disch := omega) [ip, wr, nodeB, k3, l1In', hN, hI, hS, h0_, h1_, h2_, h3_]
       ·simp (maxSteps := 1000000) (disch := omega) [ip, wr, nodeB, k3, l1In', hN, hI, hS, h0_, h1_, h2_, h3_]
      ·simp (maxSteps := 1000000) (disch := omega) [ip, wr, nodeB, k3, l1In', hN, hI, hS, h0_, h1_, h2_]
     ·simp (maxSteps := 1000000) (disch := omega) [ip, wr, nodeB, k3, l1In', hN, hI, hS, h0_, h1_]
    ·simp (maxSteps := 1000000) (disch := omega) [ip, wr, nodeB, k3, l1In', hN, hI, hS, h0_]
   ·simp (maxSteps := 1000000) (disch := omega) [ip, wr, k3]
    by_cases k4 : x.kind = 4
    ·by_cases h0_ : x.names = []
     ·by_cases h1_ : x.args = []
      ·by_cases h2_ : sym x.s = true
       ·by_cases h3_ : x.n = 0
        ·simp (maxSteps := 1000000) (disch := omega) [ip, wr, nodeB, k4, l1In', hN, hI, hS, h0_, h1_, h2_, h3_]
        ·simp (maxSteps := 1000000) (disch := omega) [ip, wr, nodeB, k4, l1In', hN, hI, hS, h0_, h1_, h2_, h3_]
       ·simp (maxSteps := 1000000) (disch := omega) [ip, wr, nodeB, k4, l1In', hN, hI, hS, h0_, h1_, h2_]
      ·simp (maxSteps := 1000000) (disch := omega) [ip, wr, nodeB, k4, l1In', hN, hI, hS, h0_, h1_]
     ·simp (maxSteps := 1000000) (disch := omega) [ip, wr, nodeB, k4, l1In', hN, hI, hS, h0_]
    ·simp (maxSteps := 1000000) (disch := omega) [ip, wr, k4]
     by_cases k5 : x.kind = 5
     ·by_cases h0_ : x.names = []
      ·by_cases h1_ : x.args = []
       ·by_cases h2_ : isName x.s = true
        ·by_cases h3_ : x.n = 0
         ·simp (maxSteps := 1000000) (disch := omega) [ip, wr, nodeB, k5, l1In', hN, hI, hS, h0_, h1_, h2_, h3_]
         ·simp (maxSteps := 1000000) (disch := omega) [ip, wr, nodeB, k5, l1In', hN, hI, hS, h0_, h1_, h2_, h3_]
        ·simp (maxSteps := 1000000) (disch := omega) [ip, wr, nodeB, k5, l1In', hN, hI, hS, h0_, h1_, h2_]
       ·simp (maxSteps := 1000000) (disch := omega) [ip, wr, nodeB, k5, l1In', hN, hI, hS, h0_, h1_]
      ·simp (maxSteps := 1000000) (disch := omega) [ip, wr, nodeB, k5, l1In', hN, hI, hS, h0_]
     ·simp (maxSteps := 1000000) (disch := omega) [ip, wr, k5]
      by_cases k6 : x.kind = 6
      ·by_cases h0_ : x.names = []
       ·by_cases h1_ : x.args.length = 3
        ·have g1_ : (x.args.length : Int) = 3 := by omega
         by_cases h2_ : x.s = ⟨#[]⟩
         ·by_cases h3_ : x.n = 0
          ·simp (maxSteps := 1000000) (disch := omega) [ip, wr, nodeB, k6, l1In', hN, hI, hS, h0_, h1_, g1_, h2_, h3_]
          ·simp (maxSteps := 1000000) (disch := omega) [ip, wr, nodeB, k6, l1In', hN, hI, hS, h0_, h1_, g1_, h2_, h3_]
         ·simp (maxSteps := 1000000) (disch := omega) [ip, wr, nodeB, k6, l1In', hN, hI, hS, h0_, h1_, g1_, h2_]
        ·have g1_ : ¬ ((x.args.length : Int) = 3) := by omega
         simp (maxSteps := 1000000) (disch := omega) [ip, wr, nodeB, k6, l1In', hN, hI, hS, h0_, h1_, g1_]
       ·simp (maxSteps := 1000000) (disch := omega) [ip, wr, nodeB, k6, l1In', hN, hI, hS, h0_]
      ·simp (maxSteps := 1000000) (disch := omega) [ip, wr, k6]
       by_cases k7 : x.kind = 7
       ·by_cases h0_ : namesB x.names 8 = true
        ·by_cases h1_ : x.args.length = 1
         ·have g1_ : (x.args.length : Int) = 1 := by omega
          by_cases h2_ : x.s = ⟨#[]⟩
          ·by_cases h3_ : x.n = 0
           ·simp (maxSteps := 1000000) (disch := omega) [ip, wr, nodeB, k7, l1In', hN, hI, hS, h0_, h1_, g1_, h2_, h3_]
           ·simp (maxSteps := 1000000) (disch := omega) [ip, wr, nodeB, k7, l1In', hN, hI, hS, h0_, h1_, g1_, h2_, h3_]
          ·simp (maxSteps := 1000000) (disch := omega) [ip, wr, nodeB, k7, l1In', hN, hI, hS, h0_, h1_, g1_, h2_]
         ·have g1_ : ¬ ((x.args.length : Int) = 1) := by omega
          simp (maxSteps := 1000000) (disch := omega) [ip, wr, nodeB, k7, l1In', hN, hI, hS, h0_, h1_, g1_]
        ·simp (maxSteps := 1000000) (disch := omega) [ip, wr, nodeB, k7, l1In', hN, hI, hS, h0_]
       ·simp (maxSteps := 1000000) (disch := omega) [ip, wr, k7]
        by_cases k8 : x.kind = 8
        ·by_cases h0_ : x.names = []
         ·by_cases h1_ : within 1 9 x.args.length = true
          ·by_cases h2_ : x.s = ⟨#[]⟩
           ·by_cases h3_ : x.n = 0
            ·simp (maxSteps := 1000000) (disch := omega) [ip, wr, nodeB, k8, l1In', hN, hI, hS, h0_, h1_, h2_, h3_]
            ·simp (maxSteps := 1000000) (disch := omega) [ip, wr, nodeB, k8, l1In', hN, hI, hS, h0_, h1_, h2_, h3_]
           ·simp (maxSteps := 1000000) (disch := omega) [ip, wr, nodeB, k8, l1In', hN, hI, hS, h0_, h1_, h2_]
          ·simp (maxSteps := 1000000) (disch := omega) [ip, wr, nodeB, k8, l1In', hN, hI, hS, h0_, h1_]
         ·simp (maxSteps := 1000000) (disch := omega) [ip, wr, nodeB, k8, l1In', hN, hI, hS, h0_]
        ·simp (maxSteps := 1000000) (disch := omega) [ip, wr, k8]
         by_cases k10 : x.kind = 10
         ·by_cases h0_ : x.names = []
          ·by_cases h1_ : x.args.length = 1
           ·have g1_ : (x.args.length : Int) = 1 := by omega
            by_cases h2_ : isName x.s = true
            ·by_cases h3_ : x.n = 0
             ·simp (maxSteps := 1000000) (disch := omega) [ip, wr, nodeB, k10, l1In', hN, hI, hS, h0_, h1_, g1_, h2_, h3_]
             ·simp (maxSteps := 1000000) (disch := omega) [ip, wr, nodeB, k10, l1In', hN, hI, hS, h0_, h1_, g1_, h2_, h3_]
            ·simp (maxSteps := 1000000) (disch := omega) [ip, wr, nodeB, k10, l1In', hN, hI, hS, h0_, h1_, g1_, h2_]
           ·have g1_ : ¬ ((x.args.length : Int) = 1) := by omega
            simp (maxSteps := 1000000) (disch := omega) [ip, wr, nodeB, k10, l1In', hN, hI, hS, h0_, h1_, g1_]
          ·simp (maxSteps := 1000000) (disch := omega) [ip, wr, nodeB, k10, l1In', hN, hI, hS, h0_]
         ·simp (maxSteps := 1000000) (disch := omega) [ip, wr, k10]
          by_cases k11 : x.kind = 11
          ·by_cases h0_ : x.names = []
           ·by_cases h1_ : 2 ≤ x.args.length
            ·have g1_ : (2 : Int) ≤ x.args.length := by omega
             by_cases h2_ : x.s = ⟨#[]⟩
             ·by_cases h3_ : x.n = 0
              ·simp (maxSteps := 1000000) (disch := omega) [ip, wr, nodeB, k11, l1In', hN, hI, hS, h0_, h1_, g1_, h2_, h3_]
              ·simp (maxSteps := 1000000) (disch := omega) [ip, wr, nodeB, k11, l1In', hN, hI, hS, h0_, h1_, g1_, h2_, h3_]
             ·simp (maxSteps := 1000000) (disch := omega) [ip, wr, nodeB, k11, l1In', hN, hI, hS, h0_, h1_, g1_, h2_]
            ·have g1_ : ¬ ((2 : Int) ≤ x.args.length) := by omega
             simp (maxSteps := 1000000) (disch := omega) [ip, wr, nodeB, k11, l1In', hN, hI, hS, h0_, h1_, g1_]
           ·simp (maxSteps := 1000000) (disch := omega) [ip, wr, nodeB, k11, l1In', hN, hI, hS, h0_]
          ·simp (maxSteps := 1000000) (disch := omega) [ip, wr, k11]
           by_cases k9 : x.kind = 9
           ·simp only [KNode.row, k9] at hP
            simp (maxSteps := 1000000) (disch := omega) [ip, wr, nodeB, k9, hP]
           ·simp (maxSteps := 1000000) (disch := omega) [ip, wr, nodeB, k1, k2, k3, k4, k5, k6, k7, k8, k10, k11, k9]
theorem nodeOk (x : KNode) (hs : (x.s.size : Int) ≤ 1000000000) (hl : (x.names.length : Int) ≤ 1048576) (hu : (strsU x.names : Int) ≤ 1048576) : A 87 [.agg (KNode.row false x)] = some ([.leaf (.bool (nodeB x))], [.gone]) := by
 have hP := primOk x hs hu
 have hN : A 83 [.leaf (Kstrs false x.names), .leaf (.int .i64 8)] = some ([.leaf (.bool (namesB x.names 8))], [.gone, .gone]) := namesOk x.names 8 hl hu
 have hI := implIsName x.s hs
 have hS := symOk x.s (by omega)
 clear hs hl hu
 refine run_impl_nodeOk ?_
 simp (maxSteps := 1000000) (disch := omega) [ip, wr, impl_nodeOk.b]
 by_cases k1 : x.kind = 1
 ·by_cases h0_ : within (-1000000) 1000000 x.n = true
  ·by_cases h1_ : x.s = ⟨#[]⟩
   ·by_cases h2_ : x.names = []
    ·by_cases h3_ : x.args = []
     ·simp (maxSteps := 1000000) (disch := omega) [ip, wr, nodeB, k1, inRange', hN, hI, hS, h0_, h1_, h2_, h3_]
     ·simp (maxSteps := 1000000) (disch := omega) [ip, wr, nodeB, k1, inRange', hN, hI, hS, h0_, h1_, h2_, h3_]
    ·simp (maxSteps := 1000000) (disch := omega) [ip, wr, nodeB, k1, inRange', hN, hI, hS, h0_, h1_, h2_]
   ·simp (maxSteps := 1000000) (disch := omega) [ip, wr, nodeB, k1, inRange', hN, hI, hS, h0_, h1_]
  ·simp (maxSteps := 1000000) (disch := omega) [ip, wr, nodeB, k1, inRange', hN, hI, hS, h0_]
 ·simp (maxSteps := 1000000) (disch := omega) [ip, wr, k1]
  by_cases k2 : x.kind = 2
  ·by_cases h0_ : within 0 1 x.n = true
   ·by_cases h1_ : x.s = ⟨#[]⟩
    ·by_cases h2_ : x.names = []
     ·by_cases h3_ : x.args = []
      ·simp (maxSteps := 1000000) (disch := omega) [ip, wr, nodeB, k2, inRange', hN, hI, hS, h0_, h1_, h2_, h3_]
      ·simp (maxSteps := 1000000) (disch := omega) [ip, wr, nodeB, k2, inRange', hN, hI, hS, h0_, h1_, h2_, h3_]
     ·simp (maxSteps := 1000000) (disch := omega) [ip, wr, nodeB, k2, inRange', hN, hI, hS, h0_, h1_, h2_]
    ·simp (maxSteps := 1000000) (disch := omega) [ip, wr, nodeB, k2, inRange', hN, hI, hS, h0_, h1_]
   ·simp (maxSteps := 1000000) (disch := omega) [ip, wr, nodeB, k2, inRange', hN, hI, hS, h0_]
  ·simp (maxSteps := 1000000) (disch := omega) [ip, wr, k2]
   by_cases k3 : x.kind = 3
   ·by_cases h0_ : x.n = 0
    ·by_cases h1_ : x.s = ⟨#[]⟩
     ·by_cases h2_ : x.names = []
      ·by_cases h3_ : x.args = []
       ·simp (maxSteps := 1000000) (disch := omega) [ip, wr, nodeB, k3, inRange', hN, hI, hS, h0_, h1_, h2_, h3_]
       ·simp (maxSteps := 1000000) (disch := omega) [ip, wr, nodeB, k3, inRange', hN, hI, hS, h0_, h1_, h2_, h3_]
      ·simp (maxSteps := 1000000) (disch := omega) [ip, wr, nodeB, k3, inRange', hN, hI, hS, h0_, h1_, h2_]
     ·simp (maxSteps := 1000000) (disch := omega) [ip, wr, nodeB, k3, inRange', hN, hI, hS, h0_, h1_]
    ·simp (maxSteps := 1000000) (disch := omega) [ip, wr, nodeB, k3, inRange', hN, hI, hS, h0_]
   ·simp (maxSteps := 1000000) (disch := omega) [ip, wr, k3]
    by_cases k4 : x.kind = 4
    ·by_cases h0_ : x.n = 0
     ·by_cases h1_ : sym x.s = true
      ·by_cases h2_ : x.names = []
       ·by_cases h3_ : x.args = []
        ·simp (maxSteps := 1000000) (disch := omega) [ip, wr, nodeB, k4, inRange', hN, hI, hS, h0_, h1_, h2_, h3_]
        ·simp (maxSteps := 1000000) (disch := omega) [ip, wr, nodeB, k4, inRange', hN, hI, hS, h0_, h1_, h2_, h3_]
       ·simp (maxSteps := 1000000) (disch := omega) [ip, wr, nodeB, k4, inRange', hN, hI, hS, h0_, h1_, h2_]
      ·simp (maxSteps := 1000000) (disch := omega) [ip, wr, nodeB, k4, inRange', hN, hI, hS, h0_, h1_]
     ·simp (maxSteps := 1000000) (disch := omega) [ip, wr, nodeB, k4, inRange', hN, hI, hS, h0_]
    ·simp (maxSteps := 1000000) (disch := omega) [ip, wr, k4]
     by_cases k5 : x.kind = 5
     ·by_cases h0_ : x.n = 0
      ·by_cases h1_ : isName x.s = true
       ·by_cases h2_ : x.names = []
        ·by_cases h3_ : x.args = []
         ·simp (maxSteps := 1000000) (disch := omega) [ip, wr, nodeB, k5, inRange', hN, hI, hS, h0_, h1_, h2_, h3_]
         ·simp (maxSteps := 1000000) (disch := omega) [ip, wr, nodeB, k5, inRange', hN, hI, hS, h0_, h1_, h2_, h3_]
        ·simp (maxSteps := 1000000) (disch := omega) [ip, wr, nodeB, k5, inRange', hN, hI, hS, h0_, h1_, h2_]
       ·simp (maxSteps := 1000000) (disch := omega) [ip, wr, nodeB, k5, inRange', hN, hI, hS, h0_, h1_]
      ·simp (maxSteps := 1000000) (disch := omega) [ip, wr, nodeB, k5, inRange', hN, hI, hS, h0_]
     ·simp (maxSteps := 1000000) (disch := omega) [ip, wr, k5]
      by_cases k6 : x.kind = 6
      ·by_cases h0_ : x.n = 0
       ·by_cases h1_ : x.s = ⟨#[]⟩
        ·by_cases h2_ : x.names = []
         ·by_cases h3_ : x.args.length = 3
          ·have g3_ : (x.args.length : Int) = 3 := by omega
           simp (maxSteps := 1000000) (disch := omega) [ip, wr, nodeB, k6, inRange', hN, hI, hS, h0_, h1_, h2_, h3_, g3_]
          ·have g3_ : ¬ ((x.args.length : Int) = 3) := by omega
           simp (maxSteps := 1000000) (disch := omega) [ip, wr, nodeB, k6, inRange', hN, hI, hS, h0_, h1_, h2_, h3_, g3_]
         ·simp (maxSteps := 1000000) (disch := omega) [ip, wr, nodeB, k6, inRange', hN, hI, hS, h0_, h1_, h2_]
        ·simp (maxSteps := 1000000) (disch := omega) [ip, wr, nodeB, k6, inRange', hN, hI, hS, h0_, h1_]
       ·simp (maxSteps := 1000000) (disch := omega) [ip, wr, nodeB, k6, inRange', hN, hI, hS, h0_]
      ·simp (maxSteps := 1000000) (disch := omega) [ip, wr, k6]
       by_cases k7 : x.kind = 7
       ·by_cases h0_ : x.n = 0
        ·by_cases h1_ : x.s = ⟨#[]⟩
         ·by_cases h2_ : namesB x.names 8 = true
          ·by_cases h3_ : x.args.length = 1
           ·have g3_ : (x.args.length : Int) = 1 := by omega
            simp (maxSteps := 1000000) (disch := omega) [ip, wr, nodeB, k7, inRange', hN, hI, hS, h0_, h1_, h2_, h3_, g3_]
           ·have g3_ : ¬ ((x.args.length : Int) = 1) := by omega
            simp (maxSteps := 1000000) (disch := omega) [ip, wr, nodeB, k7, inRange', hN, hI, hS, h0_, h1_, h2_, h3_, g3_]
          ·simp (maxSteps := 1000000) (disch := omega) [ip, wr, nodeB, k7, inRange', hN, hI, hS, h0_, h1_, h2_]
         ·simp (maxSteps := 1000000) (disch := omega) [ip, wr, nodeB, k7, inRange', hN, hI, hS, h0_, h1_]
        ·simp (maxSteps := 1000000) (disch := omega) [ip, wr, nodeB, k7, inRange', hN, hI, hS, h0_]
       ·simp (maxSteps := 1000000) (disch := omega) [ip, wr, k7]
        by_cases k8 : x.kind = 8
        ·by_cases h0_ : x.n = 0
         ·by_cases h1_ : x.s = ⟨#[]⟩
          ·by_cases h2_ : x.names = []
           ·by_cases h3_ : within 1 9 x.args.length = true
            ·simp (maxSteps := 1000000) (disch := omega) [ip, wr, nodeB, k8, inRange', hN, hI, hS, h0_, h1_, h2_, h3_]
            ·simp (maxSteps := 1000000) (disch := omega) [ip, wr, nodeB, k8, inRange', hN, hI, hS, h0_, h1_, h2_, h3_]
           ·simp (maxSteps := 1000000) (disch := omega) [ip, wr, nodeB, k8, inRange', hN, hI, hS, h0_, h1_, h2_]
          ·simp (maxSteps := 1000000) (disch := omega) [ip, wr, nodeB, k8, inRange', hN, hI, hS, h0_, h1_]
         ·simp (maxSteps := 1000000) (disch := omega) [ip, wr, nodeB, k8, inRange', hN, hI, hS, h0_]
        ·simp (maxSteps := 1000000) (disch := omega) [ip, wr, k8]
         by_cases k9 : x.kind = 9
         ·simp only [KNode.row, k9] at hP
          simp (maxSteps := 1000000) (disch := omega) [ip, wr, nodeB, k9, hP]
         ·simp (maxSteps := 1000000) (disch := omega) [ip, wr, k9]
          by_cases k10 : x.kind = 10
          ·by_cases h0_ : x.n = 0
           ·by_cases h1_ : isName x.s = true
            ·by_cases h2_ : x.names = []
             ·by_cases h3_ : x.args.length = 1
              ·have g3_ : (x.args.length : Int) = 1 := by omega
               simp (maxSteps := 1000000) (disch := omega) [ip, wr, nodeB, k10, inRange', hN, hI, hS, h0_, h1_, h2_, h3_, g3_]
              ·have g3_ : ¬ ((x.args.length : Int) = 1) := by omega
               simp (maxSteps := 1000000) (disch := omega) [ip, wr, nodeB, k10, inRange', hN, hI, hS, h0_, h1_, h2_, h3_, g3_]
             ·simp (maxSteps := 1000000) (disch := omega) [ip, wr, nodeB, k10, inRange', hN, hI, hS, h0_, h1_, h2_]
            ·simp (maxSteps := 1000000) (disch := omega) [ip, wr, nodeB, k10, inRange', hN, hI, hS, h0_, h1_]
           ·simp (maxSteps := 1000000) (disch := omega) [ip, wr, nodeB, k10, inRange', hN, hI, hS, h0_]
          ·simp (maxSteps := 1000000) (disch := omega) [ip, wr, k10]
           by_cases k11 : x.kind = 11
           ·by_cases h0_ : x.n = 0
            ·by_cases h1_ : x.s = ⟨#[]⟩
             ·by_cases h2_ : x.names = []
              ·by_cases h3_ : 2 ≤ x.args.length
               ·have g3_ : (2 : Int) ≤ x.args.length := by omega
                simp (maxSteps := 1000000) (disch := omega) [ip, wr, nodeB, k11, inRange', hN, hI, hS, h0_, h1_, h2_, h3_, g3_]
               ·have g3_ : ¬ ((2 : Int) ≤ x.args.length) := by omega
                simp (maxSteps := 1000000) (disch := omega) [ip, wr, nodeB, k11, inRange', hN, hI, hS, h0_, h1_, h2_, h3_, g3_]
              ·simp (maxSteps := 1000000) (disch := omega) [ip, wr, nodeB, k11, inRange', hN, hI, hS, h0_, h1_, h2_]
             ·simp (maxSteps := 1000000) (disch := omega) [ip, wr, nodeB, k11, inRange', hN, hI, hS, h0_, h1_]
            ·simp (maxSteps := 1000000) (disch := omega) [ip, wr, nodeB, k11, inRange', hN, hI, hS, h0_]
           ·simp (maxSteps := 1000000) (disch := omega) [ip, wr, nodeB, k1, k2, k3, k4, k5, k6, k7, k8, k9, k10, k11]
end Go.Proofs.YthkfnfppihgejaaGreatDoor.LN
