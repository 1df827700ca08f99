import Derived.Test.YtgdcofbnbiclmaaGreatDoorQCliO
import Derived.Test.YtgdcofbnbiclmaaGreatDoorQHold
import Derived.BigQuiet
import Derived.Test.YtgdcofbnbiclmaaGreatDoorQHeldX
import Derived.Test.YtgdcofbnbiclmaaGreatDoorQValsP
namespace Go.Proofs.YtgdcofbnbiclmaaGreatDoor
set_option linter.all false
set_option maxHeartbeats 32000000
open Go.RowKit
structure Mo (B g:Nat) (w w':World):Prop where
 q:Below B w w'
 size:w.heap.size≤w'.heap.size
 far:∀ k t cs,k≠g→t≠142→Blk w k t cs→Blk w' k t cs
section
variable {w w' w'':World} {B g:Nat} {t:TypeId} {cs:Array Value} {A:Option Addr} {n c:Nat}
theorem Mo.refl (B g:Nat) (w:World):Mo B g w w:=⟨Below.refl _ _,Nat.le_refl _,fun _ _ _ _ _ h=>h⟩
theorem Mo.blk (hg:w.grownBy w' (some g)) (hB:B≤g) (hw:B≤w.heap.size):Mo B g w w':=
 ⟨below_grow (Below.refl _ w) hg hw hB,hg.size,fun _ _ _ h1 _ hb=>grown_blk hb hg h1⟩
end
theorem New_any (w:World):Calls Tryz.prog 39 #[] w fun e w'=>e = .returned (.agg #[.int .i64 0,.slice none 0 0,.int .i64 1,.slice none 0 0])∧Below w.heap.size w w':=by
 have Z:=Blk.new w 49 #[.int .i64 0,.slice none 0 0,.int .i64 1,.slice none 0 0]
 have q:Below w.heap.size w (w.alloc (.cells #[.int .i64 0,.slice none 0 0,.int .i64 1,.slice none 0 0] 49)):=below_by
 have cZ:=hide Z.cell
 clear Z
 go_enter Tryz.func39,Tryz.ntmps39
 go_wp2_with fail
 have cZ:=cZ.out
 refine bodyPost_ret (v:=.agg #[.int .i64 0,.slice none 0 0,.int .i64 1,.slice none 0 0]) ?_ rfl ⟨rfl,q⟩
 simp [results,Tryz.results39,go_sem,cZ]
theorem tnumber_any (n:Int) (w:World):Calls Tryz.prog 193 #[.int .i64 n] w fun e w'=>e = .returned (.bool (numberOk n))∧w=w':=by
 go_enter Tryz.func193,Tryz.ntmps193
 go_wp2_with fail
 all_goals go_ret
 all_goals exact ⟨ret_bool (by simp [numberOk];try omega),rfl⟩
def csM (i t:Int) (m:Mach):Int:=if (numberOk i && numberOk t)=true then checkMach m else 2
set_option maxRecDepth 100000 in
theorem CheckSnap_any (i t:Int) (m:Mach) (A B:Option Addr) (na ca nb cb:Nat) (w:World) (hE:StSl w A na ca m.ents) (hC:ClSl w B nb cb m.clis) (hna:na≤1048576) (hnb:nb≤1048576) (hsm:∀ x∈m.ents,small x.val 1048576) (hcl:∀ x∈m.clis,x.rep.text.size≤1048576∧x.rep.list.length≤1048576) :
  Calls Tryz.prog 166 #[.agg #[.int .i64 i,.int .i64 t,.int .i64 m.now,.slice A na ca,.int .i64 m.next,.slice B nb cb]] w fun e w'=>e = .returned (.int .i64 (csM i t m))∧Below w.heap.size w w':=by
 have KM:=hide (fun w' (hb:Below w.heap.size w w')=>CheckM_any m A B na ca nb cb w' (hE.bl hb) (hC.bl hb) hna hnb hsm hcl)
 have h1:=fun w=>tnumber_any i w
 have h2:=fun w=>tnumber_any t w
 unfold csM
 generalize checkMach m=cm at *
 generalize numberOk i=bi at *
 generalize numberOk t=bt at *
 have H1:=hide h1;have H2:=hide h2
 clear h1 h2 hE hC hsm hcl
 obtain ⟨now,ents,next,clis⟩:=m
 simp only at KM ⊢
 have T0:=Blk.new w 109 #[.int .i64 i,.int .i64 t,.int .i64 now,.slice A na ca,.int .i64 next,.slice B nb cb]
 have q0:Below w.heap.size w (w.alloc (.cells #[.int .i64 i,.int .i64 t,.int .i64 now,.slice A na ca,.int .i64 next,.slice B nb cb] 109)):=below_by
 go_enter Tryz.func166,Tryz.ntmps166
 go_wp2_with fail
 refine (H1.out _).mono ?_
 rintro e w' ⟨rfl,rfl⟩
 cases bi
 ·go_wp2_with fail
  go_ret
  exact ⟨rfl,q0⟩
 ·(try clear cT0 fT0);have cT0:=T0.cell;have fT0:=T0.frozen
  go_wp2_with fail
  refine (H2.out _).mono ?_
  rintro e w' ⟨rfl,rfl⟩
  cases bt
  ·go_wp2_with fail
   go_ret
   exact ⟨rfl,q0⟩
  ·go_wp2_with fail
   refine (KM.out _ q0).mono ?_
   rintro e w1 ⟨rfl,hb1⟩
   have q1:=bstep q0 hb1
   go_wp2_with fail
   go_ret
   exact ⟨rfl,q1⟩
set_option maxRecDepth 100000 in
theorem CheckLoad_any (i t:Int) (m:Mach) (A B:Option Addr) (na ca nb cb:Nat) (w:World) (hE:StSl w A na ca m.ents) (hC:ClSl w B nb cb m.clis) (hna:na≤1048576) (hnb:nb≤1048576) (hsm:∀ x∈m.ents,small x.val 1048576) (hcl:∀ x∈m.clis,x.rep.text.size≤1048576∧x.rep.list.length≤1048576) :
  Calls Tryz.prog 171 #[.agg #[.int .i64 3,.int .i64 0,.int .i64 0,.int .i64 0,.int .i64 0,.int .i64 0,.bool false,.int .i64 0,.int .i64 0,.int .i64 0,.string { data:=#[] },.string { data:=#[] },.string { data:=#[] },.int .i64 0,.int .i64 i,.int .i64 t,.int .i64 m.now,.slice A na ca,.int .i64 m.next,.slice B nb cb]] w fun e w'=>e = .returned (.int .i64 (csM i t m))∧Below w.heap.size w w':=by
 have KM:=hide (fun w' (hb:Below w.heap.size w w')=>CheckSnap_any i t m A B na ca nb cb w' (hE.bl hb) (hC.bl hb) hna hnb hsm hcl)
 generalize csM i t m=R at *
 clear hE hC hsm hcl
 obtain ⟨now,ents,next,clis⟩:=m
 simp only at KM ⊢
 have T0:=Blk.new w 205 #[.int .i64 3,.int .i64 0,.int .i64 0,.int .i64 0,.int .i64 0,.int .i64 0,.bool false,.int .i64 0,.int .i64 0,.int .i64 0,.string { data:=#[] },.string { data:=#[] },.string { data:=#[] },.int .i64 0,.int .i64 i,.int .i64 t,.int .i64 now,.slice A na ca,.int .i64 next,.slice B nb cb]
 replace T0:=T0.alloc (.cells #[.int .i64 0,.int .i64 0,.bool false,.int .i64 0,.int .i64 0,.int .i64 0,.string { data:=#[] },.string { data:=#[] },.string { data:=#[] },.int .i64 0] 67)
 have I0:=Blk.new (w.alloc (.cells #[.int .i64 3,.int .i64 0,.int .i64 0,.int .i64 0,.int .i64 0,.int .i64 0,.bool false,.int .i64 0,.int .i64 0,.int .i64 0,.string { data:=#[] },.string { data:=#[] },.string { data:=#[] },.int .i64 0,.int .i64 i,.int .i64 t,.int .i64 now,.slice A na ca,.int .i64 next,.slice B nb cb] 205)) 67 #[.int .i64 0,.int .i64 0,.bool false,.int .i64 0,.int .i64 0,.int .i64 0,.string { data:=#[] },.string { data:=#[] },.string { data:=#[] },.int .i64 0]
 have q0:Below w.heap.size w ((w.alloc (.cells #[.int .i64 3,.int .i64 0,.int .i64 0,.int .i64 0,.int .i64 0,.int .i64 0,.bool false,.int .i64 0,.int .i64 0,.int .i64 0,.string { data:=#[] },.string { data:=#[] },.string { data:=#[] },.int .i64 0,.int .i64 i,.int .i64 t,.int .i64 now,.slice A na ca,.int .i64 next,.slice B nb cb] 205)).alloc (.cells #[.int .i64 0,.int .i64 0,.bool false,.int .i64 0,.int .i64 0,.int .i64 0,.string { data:=#[] },.string { data:=#[] },.string { data:=#[] },.int .i64 0] 67)):=below_by
 go_enter Tryz.func171,Tryz.ntmps171
 (try clear cT0 fT0);have cT0:=T0.cell;have fT0:=T0.frozen;(try clear cI0 fI0);have cI0:=I0.cell;have fI0:=I0.frozen
 go_wp2_with fail
 refine (KM.out _ q0).mono ?_
 rintro e w1 ⟨rfl,hb1⟩
 have q1:=bstep q0 hb1
 go_wp2_with fail
 go_ret
 exact ⟨rfl,q1⟩
end Go.Proofs.YtgdcofbnbiclmaaGreatDoor

