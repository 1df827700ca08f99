import Derived.Test.YtgmojjclobkpjaaGreatDoorQCliO
import Derived.Test.YtgmojjclobkpjaaGreatDoorQCall
import Derived.Test.YtgmojjclobkpjaaGreatDoorTie
import Derived.Test.YtgmojjclobkpjaaGreatDoorCards
import Derived.LaidMore
import Derived.SevenTiedAt
import Derived.JoinedOf
namespace Go.Proofs.YtgmojjclobkpjaaGreatDoor
set_option linter.all false
set_option maxHeartbeats 32000000
open Go.ChangeShapes Go.WideShapes Go.ChangeAt Go.RowKit
abbrev laidN:List (String×DataW Unit):=[("rostrum/client.nothing",Rows.laid_rostrum_client_nothing)]
set_option maxRecDepth 100000 in
theorem enterN:Tryz.pinned.checked.prog.mayEnter=true:=by kernel_rfl
set_option maxRecDepth 100000 in
theorem liftsN:(false == Tryz.pinned.checked.prog.liftsFinal)=true:=by kernel_rfl
set_option maxRecDepth 100000 in
theorem mainN:Tryz.pinned.checked.prog.mainIs=some (Rows.tapeLongCard.stood.harness.1,Rows.tapeLongCard.stood.harness.2.toList):=by kernel_rfl
set_option maxRecDepth 100000 in
theorem laidN1:laidOutB Tryz.pinned.checked.prog=true:=by kernel_rfl
set_option maxRecDepth 100000 in
theorem laidN2:mapsRowed Tryz.pinned.checked.prog=true:=by kernel_rfl
set_option maxRecDepth 100000 in
theorem heardN:Tryz.pinned.checked.prog.stopsHeard=true:=by kernel_rfl
set_option maxRecDepth 100000 in
theorem keysN:(Rows.tapeLongRow.plainKeys == Tryz.pinned.checked.prog.plainKeys)=true:=by kernel_rfl
theorem gNothing:Tryz.prog.globalNamed "rostrum/client.nothing" = some 0:=by kernel_rfl
theorem tNothing:(Tryz.prog.globals[0]?).map (·.type)=some 31:=by kernel_rfl
theorem door_met (os:Os) (args:Array Value):laidMetH Tryz.prog laidN ((World.doorLaid Tryz.prog 14 os).forCall (fun _ _=>0) ⟨#[],args,[]⟩).memory:=
 laidMetH_of_parts3 (fuel:=8) (laidMet_of_run' 8 (by kernel_rfl) (by kernel_rfl)) (by kernel_rfl) (by kernel_rfl)
theorem cells_cmd:Tryz.prog.cellsOf 31=5:=by kernel_rfl
theorem cells_int:Tryz.prog.cellsOf 3=1:=by kernel_rfl
theorem cells_str:Tryz.prog.cellsOf 9=1:=by kernel_rfl
theorem str_empty {s:ByteArray} (h:s.data=#[]):s={ data:=#[] }:=by
 cases s
 simp only at h
 subst h
 rfl
set_option maxRecDepth 100000 in
theorem noth_of_laid {W:World} (h:laidMetH Tryz.prog laidN W):Noth W:=by
 rw [MakeChecks.laidMetH_plain _ _ _ (by kernel_rfl)] at h
 obtain ⟨ps,⟨g0,t0,cs0,f0,p0,q0,hg0,ht0,hv0,hd0,_,_⟩,_,_⟩:=h
 obtain rfl:=Option.some.inj (gNothing.symm.trans hg0)
 obtain rfl:=Option.some.inj (tNothing.symm.trans ht0)
 have hcell:=fun i=>World.var?_cell gNothing hv0 i
 obtain ⟨xs,n,_,hx,hl,hlen,hf⟩:=DataW.trod_struct Tryz.underlying31 hd0
 obtain ⟨cs⟩:=cs0
 rw [cells_cmd] at hl
 match cs,hl,xs,hlen,hx,hf,hcell with
 | [c0,c1,c2,c3,c4],_,[x0,x1,x2,x3,x4],_,hx,hf,hcell=>
  have e0:=hf 0 _ rfl
  have e1:=hf 1 _ rfl
  have e2:=hf 2 _ rfl
  have e3:=hf 3 _ rfl
  have e4:=hf 4 _ rfl
  simp only [Rows.laid_rostrum_client_nothing,List.map_cons,List.map_nil,Prod.mk.injEq,DataW.agg.injEq,List.cons.injEq] at hx
  obtain ⟨⟨h0,h1,h2,h3,h4,_⟩,_⟩:=hx
  obtain ⟨k0,a0,b0,_⟩:=DataW.trod_int Tryz.underlying3 e0
  obtain ⟨k1,a1,b1,_⟩:=DataW.trod_string Tryz.underlying9 e1
  obtain ⟨k2,a2,b2,_⟩:=DataW.trod_string Tryz.underlying9 e2
  obtain ⟨k3,a3,b3,_⟩:=DataW.trod_string Tryz.underlying9 e3
  obtain ⟨k4,a4,b4,_⟩:=DataW.trod_int Tryz.underlying3 e4
  simp [cells_int,cells_str] at a0 a1 a2 a3 a4
  rw [b0] at h0;rw [b1] at h1;rw [b2] at h2;rw [b3] at h3;rw [b4] at h4
  simp at h0 h1 h2 h3 h4
  subst a0;subst a1;subst a2;subst a3;subst a4
  subst h0;subst h4
  have s1:=str_empty h1
  have s2:=str_empty h2
  have s3:=str_empty h3
  subst s1;subst s2;subst s3
  refine ⟨?_,hcell 0,hcell 1,hcell 2,hcell 3,hcell 4⟩
  rcases Nat.lt_or_ge 0 W.heap.size with hlt|hge
  ·exact hlt
  ·exfalso
   have:=hcell 0
   simp [World.cell?,Array.getElem?_eq_none hge] at this
end Go.Proofs.YtgmojjclobkpjaaGreatDoor

