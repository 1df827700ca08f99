import Derived.Test.YtgdcofbnbiclmaaGreatDoorQHeldX
import Derived.Test.YtgdcofbnbiclmaaGreatDoorQFind2
import Derived.Test.YtgdcofbnbiclmaaGreatDoorQCmp
import Derived.Test.YtgdcofbnbiclmaaGreatDoorQOwn
import Derived.Test.YtgdcofbnbiclmaaGreatDoorQBase
import Derived.Deep.DeepCutAuto
import Derived.Deep.CutBlock
namespace Go.Proofs.YtgdcofbnbiclmaaGreatDoor
set_option linter.all false
set_option maxHeartbeats 32000000
open Go.RowKit
theorem elements_any (k ct:Int) (t:ByteArray) (A1 A2 A3:Option Addr) (n1 c1 n2 c2 n3 c3:Nat) (w:World) (l1:n1≤1048576) (l2:n2≤1048576) (l3:n3≤1048576) :
  Calls Tryz.prog 140 #[.agg #[.int .i64 k,.string t,.int .i64 ct,.slice A1 n1 c1,.slice A2 n2 c2,.slice A3 n3 c3]] w fun e w'=>e = .returned (.int .i64 ((n1+n2+n3:Nat):Int))∧Below w.heap.size w w':=by
 go_enter Tryz.func140,Tryz.ntmps140
 go_wp2_with fail
 go_ret
 exact ⟨ret_int (by omega),below_by⟩
def Va.size (v:Va):Nat:=v.pairs.length+v.items.length+v.scores.length
def formBad (v:Va):Bool:=
 !((v.kind == 1 || v.text.toList.isEmpty) && (v.kind == 2 || v.count == 0) && (v.kind == 3 || v.pairs.length == 0) && (v.kind == 4 || v.kind == 5 || v.items.length == 0) && (v.kind == 6 || v.scores.length == 0))
def sizeBad (v:Va):Bool:=decide (3≤v.kind) && (decide (v.size<1) || decide (20<v.size))
def textBad (v:Va):Bool := !textOk v.text || v.items.any fun s => !textOk s
def pairsBad (v:Va):Bool:=v.pairs.any fun x => !fieldOk x.field || !textOk x.text
def membersBad (v:Va):Bool:=v.scores.any fun x => !textOk x.member
def countBad (v:Va):Bool := !countOk v.count || v.scores.any fun x => !countOk x.n
def once (l:List Sc) (k:Nat):Bool:=(List.range k).all fun i=>match l[i]? with|some s=>decide (rankOf (l.take i) s.member<0)|none=>true
def risesOk (v:Va):Bool:=risesBy (fun a b:Pr=>cmpB a.field b.field) v.pairs && risesBy cmpS v.scores && (v.kind != 5 || risesBy cmpB v.items)
def orderOk (v:Va):Bool:=risesOk v && once v.scores v.scores.length
def checkValue (v:Va):Int:=
 if v.kind<1∨6<v.kind then 3 else if formBad v=true then 8 else if sizeBad v=true then 1 else if textBad v=true then 1 else if pairsBad v=true then 1 else if membersBad v=true then 1
 else if countBad v=true then 2 else if orderOk v=true then 0 else 10
theorem once_next {l:List Sc} {k:Nat} (h:k<l.length):once l (k+1)=(once l k && decide (rankOf (l.take k) l[k].member<0)):=by
 unfold once
 rw [List.range_succ,List.all_append]
 simp [List.getElem?_eq_getElem h]
set_option maxRecDepth 100000 in
theorem Check_val (v:Va) (A1 A2 A3:Option Addr) (n1 c1 n2 c2 n3 c3:Nat) (w:World) (h:VSl w v A1 n1 c1 A2 n2 c2 A3 n3 c3) (l1:n1≤1048576) (l2:n2≤1048576) (l3:n3≤1048576) :
  Calls Tryz.prog 112 #[.agg #[.int .i64 v.kind,.string v.text,.int .i64 v.count,.slice A1 n1 c1,.slice A2 n2 c2,.slice A3 n3 c3]] w fun e w'=>e = .returned (.int .i64 (checkValue v))∧Below w.heap.size w w':=by
 obtain ⟨kind,text,count,ps,is_,ss⟩:=v
 simp only
 have e1:=h.n1_;have e2:=h.n2_;have e3:=h.n3_
 simp only at e1 e2 e3
 by_cases hk:kind<1∨6<kind
 ·have hr:checkValue ⟨kind,text,count,ps,is_,ss⟩=3:=by unfold checkValue;rw [if_pos hk]
  rw [hr]
  clear e1 e2 e3 hr
  rcases hk with hk|hk
  ·go_enter Tryz.func112,Tryz.ntmps112
   go_wp2_with fail
   go_ret
   exact ⟨rfl,below_by⟩
  ·have hk1:¬ kind<1:=by omega
   go_enter Tryz.func112,Tryz.ntmps112
   go_wp2_with fail
   go_ret
   exact ⟨rfl,below_by⟩
 have hv:checkValue ⟨kind,text,count,ps,is_,ss⟩=if formBad ⟨kind,text,count,ps,is_,ss⟩=true then 8 else if sizeBad ⟨kind,text,count,ps,is_,ss⟩=true then 1 else if textBad ⟨kind,text,count,ps,is_,ss⟩=true then 1 else if pairsBad ⟨kind,text,count,ps,is_,ss⟩=true then 1 else if membersBad ⟨kind,text,count,ps,is_,ss⟩=true then 1
  else if countBad ⟨kind,text,count,ps,is_,ss⟩=true then 2 else if orderOk ⟨kind,text,count,ps,is_,ss⟩=true then 0 else 10:=by
  rw [checkValue,if_neg hk]
 have f1:formBad ⟨kind,text,count,ps,is_,ss⟩ = !((kind == 1 || text.toList.isEmpty) && (kind == 2 || count == 0) && (kind == 3 || n1 == 0) && (kind == 4 || kind == 5 || n2 == 0) && (kind == 6 || n3 == 0)):=by simp only [formBad,e1,e2,e3]
 have f2:sizeBad ⟨kind,text,count,ps,is_,ss⟩=(decide (3≤kind) && (decide (n1+n2+n3<1) || decide (20<n1+n2+n3))):=by simp only [sizeBad,Va.size,e1,e2,e3]
 have f3:textBad ⟨kind,text,count,ps,is_,ss⟩=(!textOk text || is_.any fun s => !textOk s):=rfl
 have f4:countBad ⟨kind,text,count,ps,is_,ss⟩=(!countOk count || ss.any fun x => !countOk x.n):=rfl
 have f5:orderOk ⟨kind,text,count,ps,is_,ss⟩=(risesOk ⟨kind,text,count,ps,is_,ss⟩ && once ss ss.length):=rfl
 have f6:risesOk ⟨kind,text,count,ps,is_,ss⟩=(risesBy (fun a b:Pr=>cmpB a.field b.field) ps && risesBy cmpS ss && (kind != 5 || risesBy cmpB is_)):=rfl
 have g4:pairsBad ⟨kind,text,count,ps,is_,ss⟩=ps.any fun x => !fieldOk x.field || !textOk x.text:=rfl
 have g5:membersBad ⟨kind,text,count,ps,is_,ss⟩=ss.any fun x => !textOk x.member:=rfl
 have G4:=hide g4;have G5:=hide g5
 have HV:=hide hv;have F1:=hide f1;have F2:=hide f2;have F3:=hide f3;have F4:=hide f4;have F5:=hide f5;have F6:=hide f6
 clear hv f1 f2 f3 f4 f5 f6 g4 g5
 have E1:=hide e1;have E2:=hide e2;have E3:=hide e3
 clear e1 e2 e3
 generalize checkValue ⟨kind,text,count,ps,is_,ss⟩=R at *
 generalize formBad ⟨kind,text,count,ps,is_,ss⟩=b1 at *
 generalize sizeBad ⟨kind,text,count,ps,is_,ss⟩=b2 at *
 generalize textBad ⟨kind,text,count,ps,is_,ss⟩=b3 at *
 generalize pairsBad ⟨kind,text,count,ps,is_,ss⟩=b4 at *
 generalize membersBad ⟨kind,text,count,ps,is_,ss⟩=b5 at *
 generalize countBad ⟨kind,text,count,ps,is_,ss⟩=b6 at *
 generalize orderOk ⟨kind,text,count,ps,is_,ss⟩=b7 at *
 generalize risesOk ⟨kind,text,count,ps,is_,ss⟩=b8 at *
 have hk1:¬ kind<1:=by omega
 have hk2:¬ 6<kind:=by omega
 clear hk
 have hB0:Blk (w.alloc (.cells #[.int .i64 kind,.string text,.int .i64 count,.slice A1 n1 c1,.slice A2 n2 c2,.slice A3 n3 c3] 82)) w.heap.size 82 #[.int .i64 kind,.string text,.int .i64 count,.slice A1 n1 c1,.slice A2 n2 c2,.slice A3 n3 c3]:=Blk.new _ _ _
 go_enter Tryz.func112,Tryz.ntmps112
 go_upto_block 0 with fail
 go_cut [] (fun wx=>∃ (t':ByteArray) (ct':Int) (D1 D2 D3:Option Addr) (m1 d1 m2 d2 m3 d3:Nat),Blk wx w.heap.size 82 #[.int .i64 kind,.string text,.int .i64 count,.slice A1 n1 c1,.slice A2 n2 c2,.slice A3 n3 c3]∧Below w.heap.size w wx ∧
  Blk wx (w.heap.size+1) 82 #[.int .i64 kind,.string t',.int .i64 ct',.slice D1 m1 d1,.slice D2 m2 d2,.slice D3 m3 d3]∧m1≤1048576∧m2≤1048576∧m3≤1048576 ∧
  Hid (b1=(!t'.toList.isEmpty || ct' != 0 || decide (0<m1+m2+m3))))
 case first=>
  go_wp2_with fail
  all_goals go_meet
  all_goals (repeat apply Exists.intro)
  all_goals refine ⟨hB0.alloc _,below_by,Blk.new' _ _ _ (by simp),by omega,by omega,by omega,?_⟩
  all_goals (refine hide ?_;rw [F1.out];rw [Bool.eq_iff_iff];simp_all;try omega)
  all_goals (by_cases ht:text.toList=[] <;> simp [ht] <;> omega)
 case rest=>
  obtain ⟨t',ct',D1,D2,D3,m1,d1,m2,d2,m3,d3,B0,q0,RB,y1,y2,y3,FB⟩:=hcut
  clear F1 hB0
  have he1:=fun k ct t w=>elements_any k ct t D1 D2 D3 m1 d1 m2 d2 m3 d3 w y1 y2 y3
  have he2:=fun k ct t w=>elements_any k ct t A1 A2 A3 n1 c1 n2 c2 n3 c3 w l1 l2 l3
  have i1:ps.length≤1048576:=by rw [E1.out];exact l1
  have i2:is_.length≤1048576:=by rw [E2.out];exact l2
  have i3:ss.length≤1048576:=by rw [E3.out];exact l3
  have ht1:=fun wz (hz:Below w.heap.size w wz)=>ContainsFunc_str 141 (run_enter Tryz.func141 (by kernel_rfl) (by kernel_rfl)) (fun s => !textOk s) check1_ A2 n2 c2 is_ wz E2.out (by omega) (h.i.below hz).seg
  have ht2:=fun wz (hz:Below w.heap.size w wz)=>Contains0_pair 143 (run_enter Tryz.func143 (by kernel_rfl) (by kernel_rfl)) (fun x => !fieldOk x.field || !textOk x.text) wz check2_ A1 n1 c1 ps E1.out (by omega) (h.p.below hz).seg
  have ht3:=fun wz (hz:Below w.heap.size w wz)=>Contains0_score 145 (run_enter Tryz.func145 (by kernel_rfl) (by kernel_rfl)) (fun x => !textOk x.member) wz check3_ A3 n3 c3 ss E3.out (by omega) (h.s.below hz).seg
  have ht4:=fun wz (hz:Below w.heap.size w wz)=>Contains0_score 146 (run_enter Tryz.func146 (by kernel_rfl) (by kernel_rfl)) (fun x => !countOk x.n) wz check4_ A3 n3 c3 ss E3.out (by omega) (h.s.below hz).seg
  have hr1:=fun wz (hz:Below w.heap.size w wz)=>rising_pair A1 n1 c1 ps wz E1.out (by omega) (h.p.below hz).seg
  have hr2:=fun wz (hz:Below w.heap.size w wz)=>rising_score A3 n3 c3 ss wz E3.out (by omega) (h.s.below hz).seg
  have hr3:=fun wz (hz:Below w.heap.size w wz)=>rising_str A2 n2 c2 is_ wz E2.out (by omega) (h.i.below hz).seg
  have HE1:=hide he1;have HE2:=hide he2
  have HT1:=hide ht1;have HT2:=hide ht2;have HT3:=hide ht3;have HT4:=hide ht4;have HR1:=hide hr1;have HR2:=hide hr2;have HR3:=hide hr3
  clear he1 he2 ht1 ht2 ht3 ht4 hr1 hr2 hr3 i1 i2 i3
  go_upto_region 14 with fail
  go_cut [43] (fun s wx=>s = .bool b1∧Blk wx w.heap.size 82 #[.int .i64 kind,.string text,.int .i64 count,.slice A1 n1 c1,.slice A2 n2 c2,.slice A3 n3 c3]∧Below w.heap.size w wx)
  case first=>
   (try clear cB0 fB0);have cB0:=B0.cell;have fB0:=B0.frozen
   have z0:w.heap.size<wc.heap.size:=B0.lt
   (try clear cRB fRB);have cRB:=RB.cell;have fRB:=RB.frozen
   go_wp2_with (((go_at_call 140;with_reducible refine (HE1.out _ _ _ _).mono ?_);rintro e w1 ⟨rfl,hb1⟩;obtain ⟨hc1,hf1⟩:=bcell hb1))
   all_goals go_meet
   all_goals refine ⟨?_,?_,?_⟩
   any_goals (with_reducible refine congrArg Value.bool ?_)
   any_goals (show Below _ _ _;exact below_by)
   any_goals (show Blk _ _ _ _;((repeat' (first|(with_reducible assumption)|(with_reducible exact Blk.new _ _ _)|((with_reducible refine Blk.new' _ _ _ ?_);focus (simp;done))|(with_reducible refine Blk.set' (cs:=?_) ?_ ?_)|(with_reducible refine Blk.alloc ?_ _)|(with_reducible refine Blk.drew ?_)|(with_reducible refine Blk.drewN ?_ _)|(with_reducible refine Blk.below' ?_ (by with_reducible assumption))|((with_reducible refine Blk.far ?_ ?_ _);rotate_left;(focus first|(simp;done)|(simp;omega)|omega)))) <;> try rfl))
   all_goals (rw [FB.out];rw [Bool.eq_iff_iff];simp_all;try omega)
  case rest=>
   obtain ⟨rfl,B1,q1⟩:=hcut
   clear q0 B0
   cases b1 with
   | true=>
    have hR:R=8:=by rw [HV.out];simp
    have HR:=hide hR
    clear hR HV
    go_wp2_with fail
    go_ret
    exact ⟨by rw [HR.out];rfl,q1⟩
   | false=>
    go_upto_region 16 with fail
    go_cut [56] (fun s wx=>s = .bool b2∧Blk wx w.heap.size 82 #[.int .i64 kind,.string text,.int .i64 count,.slice A1 n1 c1,.slice A2 n2 c2,.slice A3 n3 c3]∧Below w.heap.size w wx)
    case first=>
     (try clear cB1 fB1);have cB1:=B1.cell;have fB1:=B1.frozen
     have z1:w.heap.size<wc.heap.size:=B1.lt
     go_wp2_with (((go_at_call 140;with_reducible refine (HE2.out _ _ _ _).mono ?_);rintro e w1 ⟨rfl,hb1⟩;obtain ⟨hc1,hf1⟩:=bcell hb1))
     all_goals go_meet
     all_goals refine ⟨?_,?_,?_⟩
     any_goals (with_reducible refine congrArg Value.bool ?_)
     any_goals (show Below _ _ _;exact below_by)
     any_goals (show Blk _ _ _ _;((repeat' (first|(with_reducible assumption)|(with_reducible exact Blk.new _ _ _)|((with_reducible refine Blk.new' _ _ _ ?_);focus (simp;done))|(with_reducible refine Blk.set' (cs:=?_) ?_ ?_)|(with_reducible refine Blk.alloc ?_ _)|(with_reducible refine Blk.drew ?_)|(with_reducible refine Blk.drewN ?_ _)|(with_reducible refine Blk.below' ?_ (by with_reducible assumption))|((with_reducible refine Blk.far ?_ ?_ _);rotate_left;(focus first|(simp;done)|(simp;omega)|omega)))) <;> try rfl))
     all_goals (rw [F2.out];rw [Bool.eq_iff_iff];simp_all;try (first|omega|(intros;exfalso;omega)))
    case rest=>
     obtain ⟨rfl,B2,q2⟩:=hcut
     clear q1 B1
     cases b2 with
     | true=>
      have hR:R=1:=by rw [HV.out];simp
      have HR:=hide hR
      clear hR HV
      go_wp2_with fail
      go_ret
      exact ⟨by rw [HR.out];rfl,q2⟩
     | false=>
      go_upto_region 18 with fail
      go_cut [65] (fun s wx=>s = .bool b3∧Blk wx w.heap.size 82 #[.int .i64 kind,.string text,.int .i64 count,.slice A1 n1 c1,.slice A2 n2 c2,.slice A3 n3 c3]∧Below w.heap.size w wx)
      case first=>
       (try clear cB2 fB2);have cB2:=B2.cell;have fB2:=B2.frozen
       have z2:w.heap.size<wc.heap.size:=B2.lt
       go_wp2_with (first|((go_at_call 116;with_reducible refine (textOk_any _ _).mono ?_);rintro e w1 ⟨rfl,rfl⟩)|((go_at_call 113;with_reducible refine (HT1.out _ ?_).mono ?_);(focus exact below_by);rintro e w2 ⟨rfl,rfl⟩))
       all_goals go_meet
       all_goals refine ⟨?_,?_,?_⟩
       any_goals (with_reducible refine congrArg Value.bool ?_)
       any_goals (show Below _ _ _;exact below_by)
       any_goals (show Blk _ _ _ _;((repeat' (first|(with_reducible assumption)|(with_reducible exact Blk.new _ _ _)|((with_reducible refine Blk.new' _ _ _ ?_);focus (simp;done))|(with_reducible refine Blk.set' (cs:=?_) ?_ ?_)|(with_reducible refine Blk.alloc ?_ _)|(with_reducible refine Blk.drew ?_)|(with_reducible refine Blk.drewN ?_ _)|(with_reducible refine Blk.below' ?_ (by with_reducible assumption))|((with_reducible refine Blk.far ?_ ?_ _);rotate_left;(focus first|(simp;done)|(simp;omega)|omega)))) <;> try rfl))
       all_goals (rw [F3.out];simp_all)
      case rest=>
       obtain ⟨rfl,B3,q3⟩:=hcut
       clear q2 B2
       cases b3 with
       | true=>
        have hR:R=1:=by rw [HV.out];simp
        have HR:=hide hR
        clear hR HV
        go_wp2_with fail
        go_ret
        exact ⟨by rw [HR.out];rfl,q3⟩
       | false=>
        go_upto_region 20 with fail
        go_cut [68] (fun s wx=>s = .bool b4∧Blk wx w.heap.size 82 #[.int .i64 kind,.string text,.int .i64 count,.slice A1 n1 c1,.slice A2 n2 c2,.slice A3 n3 c3]∧Below w.heap.size w wx)
        case first=>
         (try clear cB3 fB3);have cB3:=B3.cell;have fB3:=B3.frozen
         have z3:w.heap.size<wc.heap.size:=B3.lt
         go_wp2_with (((go_at_call 142;with_reducible refine (HT2.out _ ?_).mono ?_);(focus exact below_by);rintro e w1 ⟨rfl,hb1⟩;obtain ⟨hc1,hf1⟩:=bcell hb1;have hz1:w.heap.size<w1.heap.size:=(by have:=hb1.size;omega)))
         all_goals go_meet
         all_goals refine ⟨?_,?_,?_⟩
         any_goals (with_reducible refine congrArg Value.bool ?_)
         any_goals (show Below _ _ _;exact below_by)
         any_goals (show Blk _ _ _ _;((repeat' (first|(with_reducible assumption)|(with_reducible exact Blk.new _ _ _)|((with_reducible refine Blk.new' _ _ _ ?_);focus (simp;done))|(with_reducible refine Blk.set' (cs:=?_) ?_ ?_)|(with_reducible refine Blk.alloc ?_ _)|(with_reducible refine Blk.drew ?_)|(with_reducible refine Blk.drewN ?_ _)|(with_reducible refine Blk.below' ?_ (by with_reducible assumption))|((with_reducible refine Blk.far ?_ ?_ _);rotate_left;(focus first|(simp;done)|(simp;omega)|omega)))) <;> try rfl))
         all_goals (rw [G4.out])
        case rest=>
         obtain ⟨rfl,B4,q4⟩:=hcut
         clear q3 B3
         cases b4 with
         | true=>
          have hR:R=1:=by rw [HV.out];simp
          have HR:=hide hR
          clear hR HV
          go_wp2_with fail
          go_ret
          exact ⟨by rw [HR.out];rfl,q4⟩
         | false=>
          go_upto_region 22 with fail
          go_cut [71] (fun s wx=>s = .bool b5∧Blk wx w.heap.size 82 #[.int .i64 kind,.string text,.int .i64 count,.slice A1 n1 c1,.slice A2 n2 c2,.slice A3 n3 c3]∧Below w.heap.size w wx)
          case first=>
           (try clear cB4 fB4);have cB4:=B4.cell;have fB4:=B4.frozen
           have z4:w.heap.size<wc.heap.size:=B4.lt
           go_wp2_with (((go_at_call 144;with_reducible refine (HT3.out _ ?_).mono ?_);(focus exact below_by);rintro e w1 ⟨rfl,hb1⟩;obtain ⟨hc1,hf1⟩:=bcell hb1;have hz1:w.heap.size<w1.heap.size:=(by have:=hb1.size;omega)))
           all_goals go_meet
           all_goals refine ⟨?_,?_,?_⟩
           any_goals (with_reducible refine congrArg Value.bool ?_)
           any_goals (show Below _ _ _;exact below_by)
           any_goals (show Blk _ _ _ _;((repeat' (first|(with_reducible assumption)|(with_reducible exact Blk.new _ _ _)|((with_reducible refine Blk.new' _ _ _ ?_);focus (simp;done))|(with_reducible refine Blk.set' (cs:=?_) ?_ ?_)|(with_reducible refine Blk.alloc ?_ _)|(with_reducible refine Blk.drew ?_)|(with_reducible refine Blk.drewN ?_ _)|(with_reducible refine Blk.below' ?_ (by with_reducible assumption))|((with_reducible refine Blk.far ?_ ?_ _);rotate_left;(focus first|(simp;done)|(simp;omega)|omega)))) <;> try rfl))
           all_goals (rw [G5.out])
          case rest=>
           obtain ⟨rfl,B5,q5⟩:=hcut
           clear q4 B4
           cases b5 with
           | true=>
            have hR:R=1:=by rw [HV.out];simp
            have HR:=hide hR
            clear hR HV
            go_wp2_with fail
            go_ret
            exact ⟨by rw [HR.out];rfl,q5⟩
           | false=>
            go_upto_region 24 with fail
            go_cut [80] (fun s wx=>s = .bool b6∧Blk wx w.heap.size 82 #[.int .i64 kind,.string text,.int .i64 count,.slice A1 n1 c1,.slice A2 n2 c2,.slice A3 n3 c3]∧Below w.heap.size w wx)
            case first=>
             (try clear cB5 fB5);have cB5:=B5.cell;have fB5:=B5.frozen
             have z5:w.heap.size<wc.heap.size:=B5.lt
             go_wp2_with (first|((go_at_call 117;with_reducible refine (countOk_any _ _).mono ?_);rintro e w1 ⟨rfl,rfl⟩)|((go_at_call 144;with_reducible refine (HT4.out _ ?_).mono ?_);(focus exact below_by);rintro e w2 ⟨rfl,hb2⟩;obtain ⟨hc2,hf2⟩:=bcell hb2;have hz2:w.heap.size<w2.heap.size:=(by have:=hb2.size;omega)))
             all_goals go_meet
             all_goals refine ⟨?_,?_,?_⟩
             any_goals (with_reducible refine congrArg Value.bool ?_)
             any_goals (show Below _ _ _;exact below_by)
             any_goals (show Blk _ _ _ _;((repeat' (first|(with_reducible assumption)|(with_reducible exact Blk.new _ _ _)|((with_reducible refine Blk.new' _ _ _ ?_);focus (simp;done))|(with_reducible refine Blk.set' (cs:=?_) ?_ ?_)|(with_reducible refine Blk.alloc ?_ _)|(with_reducible refine Blk.drew ?_)|(with_reducible refine Blk.drewN ?_ _)|(with_reducible refine Blk.below' ?_ (by with_reducible assumption))|((with_reducible refine Blk.far ?_ ?_ _);rotate_left;(focus first|(simp;done)|(simp;omega)|omega)))) <;> try rfl))
             all_goals (rw [F4.out];simp_all)
            case rest=>
             obtain ⟨rfl,B6,q6⟩:=hcut
             clear q5 B5
             cases b6 with
             | true=>
              have hR:R=2:=by rw [HV.out];simp
              have HR:=hide hR
              clear hR HV
              go_wp2_with fail
              go_ret
              exact ⟨by rw [HR.out];rfl,q6⟩
             | false=>
              go_upto_region 26 with fail
              go_cut [4] (fun s wx=>s = .bool b8∧Blk wx w.heap.size 82 #[.int .i64 kind,.string text,.int .i64 count,.slice A1 n1 c1,.slice A2 n2 c2,.slice A3 n3 c3]∧Below w.heap.size w wx)
              case first=>
               (try clear cB6 fB6);have cB6:=B6.cell;have fB6:=B6.frozen
               have z6:w.heap.size<wc.heap.size:=B6.lt
               cases hk5:(kind != 5)
               all_goals go_wp2_with (first|((go_at_call 147;with_reducible refine (HR1.out _ ?_).mono ?_);(focus exact below_by);rintro e w1 ⟨rfl,hb1⟩;obtain ⟨hc1,hf1⟩:=bcell hb1;have hz1:w.heap.size<w1.heap.size:=(by have:=hb1.size;omega))|((go_at_call 149;with_reducible refine (HR2.out _ ?_).mono ?_);(focus exact below_by);rintro e w2 ⟨rfl,hb2⟩;obtain ⟨hc2,hf2⟩:=bcell hb2;have hz2:w.heap.size<w2.heap.size:=(by have:=hb2.size;omega))|((go_at_call 151;with_reducible refine (HR3.out _ ?_).mono ?_);(focus exact below_by);rintro e w3 ⟨rfl,hb3⟩;obtain ⟨hc3,hf3⟩:=bcell hb3;have hz3:w.heap.size<w3.heap.size:=(by have:=hb3.size;omega)))
               all_goals go_meet
               all_goals refine ⟨?_,?_,?_⟩
               any_goals (with_reducible refine congrArg Value.bool ?_)
               any_goals (show Below _ _ _;exact below_by)
               any_goals (show Blk _ _ _ _;((repeat' (first|(with_reducible assumption)|(with_reducible exact Blk.new _ _ _)|((with_reducible refine Blk.new' _ _ _ ?_);focus (simp;done))|(with_reducible refine Blk.set' (cs:=?_) ?_ ?_)|(with_reducible refine Blk.alloc ?_ _)|(with_reducible refine Blk.drew ?_)|(with_reducible refine Blk.drewN ?_ _)|(with_reducible refine Blk.below' ?_ (by with_reducible assumption))|((with_reducible refine Blk.far ?_ ?_ _);rotate_left;(focus first|(simp;done)|(simp;omega)|omega)))) <;> try rfl))
               all_goals (rw [F6.out];rw [Bool.eq_iff_iff];simp_all)
              case rest=>
               obtain ⟨rfl,B7,q7⟩:=hcut
               clear q6 B6
               have i3:ss.length=n3:=E3.out
               have hnc3:=h.s.nc
               have hcm3:=h.s.cm
               unfold maxLen at hcm3
               have hsl:=h.s
               clear HT1 HT2 HT3 HT4 HR1 HR2 HR3 HE1 HE2 F2 F3 F4 F6 G4 G5 FB RB h
               subst i3
               have hv:R=if (b8 && once ss ss.length)=true then 0 else 10:=by rw [HV.out,F5.out];simp
               have HV2:=hide hv
               clear hv HV
               (try clear cB7 fB7);have cB7:=B7.cell;have fB7:=B7.frozen
               have z7:w.heap.size<wc.heap.size:=B7.lt
               have hl0:0≤(ss.length:Int):=by omega
               go_wp2_with fail
               go_loopw [4,102] (fun s t wr=>∃ (k:Nat) (x:Bool),k≤ss.length∧t = .int .i64 k∧s = .bool x∧Hid (x=(b8 && once ss k))∧Blk wr w.heap.size 82 #[.int .i64 kind,.string text,.int .i64 count,.slice A1 n1 c1,.slice A2 n2 c2,.slice A3 ss.length c3]∧Below w.heap.size w wr) (fun _ t _=>ss.length - (intOf t).toNat)
               case atStart=>exact ⟨0,b8,by omega,rfl,rfl,by simp [once,Hid],B7,q7⟩
               case round=>
                clear cB7 fB7 B7 q7 z7
                obtain ⟨k,x,hk,rfl,rfl,HX,BR,qr⟩:=hrel
                (try clear cBR fBR);have cBR:=BR.cell;have fBR:=BR.frozen
                have zr:w.heap.size<wr.heap.size:=BR.lt
                by_cases hlt:k<ss.length
                ·obtain ⟨b,off,rfl,hb,p0,p1⟩:=(hsl.below qr).seg.score hlt
                 have hon:=once_next hlt
                 have HO:=hide hon
                 clear hon
                 have htk:=hsl.take k (by omega) c3 (by omega) (Nat.le_refl _)
                 have htl:(ss.take k).length=k:=by rw [List.length_take];omega
                 have htr:(scoreRows ss).take k=scoreRows (ss.take k):=by simp [scoreRows]
                 rw [htr] at htk
                 have hrk:=fun m wz (hz:Below w.heap.size w wz)=>rank_any (some ⟨b,off,none⟩) k c3 (ss.take k) m wz htl (by omega) (htk.below hz).seg
                 have HRK:=hide hrk
                 clear hrk htr htl htk
                 generalize hy:ss[k]=y at *
                 clear hy
                 have hz1:(0:Int)≤k:=by omega
                 have hz2:(k:Int)<ss.length:=by omega
                 have st:=run_take (P:=Tryz.prog) Tryz.underlying80 (by kernel_rfl:(Tryz.prog.info? 163).map (·.size)=some 2) (some ⟨b,off,none⟩) ss.length c3 k (by omega)
                 cases x with
                 | true=>
                  go_wp2_with fail
                  go_region_held3 (fun w'=>w'.cell? ⟨w.heap.size,5,none⟩=some (.slice (some ⟨b,off,none⟩) ss.length c3)∧w'.cell? ⟨wr.heap.size,0,none⟩=some (.string y.member)) (simp [go_sem,World.cell?_alloc_past, *])
                   (first|((go_at_call 153;with_reducible refine (HRK.out _ _ ?_).mono ?_);(focus exact below_by);rintro e w2 ⟨rfl,hb2⟩;obtain ⟨hc2,hf2⟩:=bcell hb2))
                  go_wp2_with fail
                  go_round
                  case rel=>exact ⟨k+1,decide (rankOf (List.take k ss) y.member<0),by omega,by go_num,rfl,(by have:=HX.out;show _=_;rw [HO.out,←Bool.and_assoc,←this];rfl),(BR.alloc _).drew.below' hb2,below_by⟩
                  case measure=>simp [intOf];omega
                 | false=>
                  go_wp2_with fail
                  go_quiet (fail)
                  go_wp2_with fail
                  go_round
                  case rel=>exact ⟨k+1,false,by omega,by go_num,rfl,(by have:=HX.out;show false=_;rw [HO.out,←Bool.and_assoc,←this];rfl),BR.alloc _,below_by⟩
                  case measure=>simp [intOf];omega
                ·obtain rfl:k=ss.length:=by omega
                 have hv2:R=if x=true then 0 else 10:=by rw [HV2.out,←HX.out]
                 have HV3:=hide hv2
                 clear hv2 HV2 HX
                 cases x
                 all_goals go_wp2_with fail
                 all_goals go_ret
                 all_goals exact ⟨by rw [HV3.out];rfl,qr⟩
end Go.Proofs.YtgdcofbnbiclmaaGreatDoor

