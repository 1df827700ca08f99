import Derived.Test.YtgdcofbnbiclmaaGreatDoorQMatchP
namespace Go.Proofs.YtgdcofbnbiclmaaGreatDoor
set_option linter.all false
set_option maxHeartbeats 32000000
open Go.RowKit
theorem has_any (k:Int) (w:World):Calls Tryz.prog 67 #[.int .i64 k] w fun e w'=>e = .returned (.tuple #[.bool (hasNode k),.bool (hasPick k)])∧w=w':=by
 go_enter Tryz.func67,Tryz.ntmps67
 go_wp2_with fail
 all_goals (go_ret2;refine ⟨?_,rfl⟩;simp_all [hasNode,hasPick])
theorem ActCheck_any (x:ActD) (w:World):Calls Tryz.prog 46 #[.agg x.cells.toArray] w fun e w'=>e = .returned (.int .i64 (checkAct x))∧Below w.heap.size w w':=by
 obtain ⟨kind,node,pick,client,seq,cmd⟩:=x
 obtain ⟨ck,key,field,text,n⟩:=cmd
 simp only [ActD.cells]
 by_cases hk:kind<1∨12<kind
 ·have HR:=hide (show checkAct ⟨kind,node,pick,client,seq,⟨ck,key,field,text,n⟩⟩=3 by unfold checkAct;rw [if_pos hk])
  go_enter Tryz.func46,Tryz.ntmps46
  go_wp2_with fail
  all_goals go_ret
  all_goals exact ⟨by rw [HR.out];rfl,below_by⟩
 ·have hk1:¬ kind<1:=by omega
  have hk2:¬ 12<kind:=by omega
  have HR:=hide (show checkAct ⟨kind,node,pick,client,seq,⟨ck,key,field,text,n⟩⟩=_ by unfold checkAct;rw [if_neg hk])
  clear hk
  have HH:=hide (has_any kind)
  generalize hasNode kind=hn at HR HH
  generalize hasPick kind=hp at HR HH
  go_enter Tryz.func46,Tryz.ntmps46
  go_wp2_with fail
  refine (HH.out _).mono ?_
  rintro e w1 ⟨rfl,rfl⟩
  cases hn <;> cases hp
  all_goals
   go_wp2_with ((go_at_call 57;refine (CheckCall_any _ _ _ _ _ _ _ _).mono ?_;rintro e w1 ⟨rfl,hb1⟩))
   all_goals go_ret
   all_goals refine ⟨ret_int ?_,below_by⟩
   all_goals rw [HR.out]
   all_goals (simp only [Bool.false_eq_true,false_and,true_and,false_or,or_false];(try (first|(simp_all [zeroCall];done)|(simp_all [zeroCall];omega))))
def callW (c:Int×Int×Cmd):Value:=.agg #[.int .i64 c.1,.int .i64 c.2.1,.int .i64 c.2.2.kind,.string c.2.2.key,.string c.2.2.field,.string c.2.2.text,.int .i64 c.2.2.n]
def GearD.cells (g:GearD):List Value:=[.int .i64 g.kind,.int .i64 g.a,.int .i64 g.b,.int .i64 g.raw.kind,.int .i64 g.raw.key,.int .i64 g.raw.field,.int .i64 g.raw.n,.string g.raw.text]
def GearD.ok (g:GearD):Prop:=I64 g.kind∧I64 g.a∧I64 g.b∧g.raw.ok
theorem Picked_any (n many:Int) (w:World) (h1 : -9223372036854775808≤n) (h2:n≤9223372036854775807) (h3:0<many) (h4:many≤9223372036854775807) :
  Calls Tryz.prog 21 #[.int .i64 n,.int .i64 many] w fun e w'=>e = .returned (.int .i64 (picked n many))∧w=w':=by
 go_enter Tryz.func21,Tryz.ntmps21
 go_wp2_with fail
 refine (picked_any _ _ _ h1 h2 h3 h4).mono ?_
 rintro e w' ⟨rfl,rfl⟩
 go_wp2_with fail
 go_ret
 exact ⟨rfl,rfl⟩
theorem tcall_any (g:GearD) (hg:g.ok) (w:World):Calls Tryz.prog 45 #[.agg #[.int .i64 g.kind,.int .i64 g.a,.int .i64 g.b,.int .i64 g.raw.kind,.int .i64 g.raw.key,.int .i64 g.raw.field,.int .i64 g.raw.n,.string g.raw.text]] w fun e w'=>e = .returned (callW (callOf g))∧Below w.heap.size w w':=by
 obtain ⟨kind,a,b,gk,key,field,n,text⟩:=g
 obtain ⟨_,⟨a1,a2⟩,⟨b1,b2⟩,⟨k1,k2⟩,⟨y1,y2⟩,⟨f1,f2⟩,⟨n1,n2⟩,hx⟩:=hg
 simp only at a1 a2 b1 b2 k1 k2 y1 y2 f1 f2 n1 n2 hx
 have p0:=picked_lo b 4 (by omega)
 have p1:=picked_hi b 4 (by omega)
 have q0:=picked_lo a 4 (by omega)
 have q1:=picked_hi a 4 (by omega)
 have hC:=fun w=>Command_any gk key field n text w k1 k2 y1 y2 f1 f2 n1 n2 hx (picked gk 22) rfl (picked_lo _ _ (by omega)) (picked_hi _ _ (by omega))
 have hR:cmdR ⟨gk,key,field,n,text⟩=cmdOf gk key field n text:=rfl
 generalize cmdOf gk key field n text=cm at hC hR
 have HR:=hide hR;clear hR
 obtain ⟨ck,cy,cf,ct,cn⟩:=cm
 simp only [cmdV] at hC
 have HC:=hide hC;clear hC
 have hw2:IntKind.i64.wrap (1+picked a 4)=1+picked a 4:=IntWalk.i64_in _ (by omega)
 by_cases h0:(picked b 4 == 0)=true
 ·go_enter Tryz.func45,Tryz.ntmps45
  go_wp2_with (go_at_call 21;refine (Picked_any _ _ _ (by omega) (by omega) (by omega) (by omega)).mono ?_;rintro e w' ⟨rfl,rfl⟩)
  have hI:callOf ⟨kind,a,b,⟨gk,key,field,n,text⟩⟩=(0,0,noCmd):=by simp_all [callOf]
  rw [hI]
  refine bodyPost_ret (v:=callW (0,0,noCmd)) ?_ rfl ⟨rfl,below_by⟩
  simp [results,Tryz.results45,go_sem,callW,noCmd,emp]
 ·have h0:(picked b 4 == 0)=false:=by simpa using h0
  have hI:callOf ⟨kind,a,b,⟨gk,key,field,n,text⟩⟩=(picked b 4,1+picked a 4,⟨ck,cy,cf,ct,cn⟩):=by unfold callOf;rw [if_neg (by simpa using h0)];simp only [HR.out]
  rw [hI]
  clear hI HR
  go_enter Tryz.func45,Tryz.ntmps45
  go_wp2_with (go_at_call 21;refine (Picked_any _ _ _ (by omega) (by omega) (by omega) (by omega)).mono ?_;rintro e w' ⟨rfl,rfl⟩)
  go_region_held3 (fun w'=>w'.cell? ⟨w.heap.size,1,none⟩=some (.int .i64 a)∧w'.cell? ⟨w.heap.size,3,none⟩=some (.int .i64 gk)∧w'.cell? ⟨w.heap.size,4,none⟩=some (.int .i64 key)∧w'.cell? ⟨w.heap.size,5,none⟩=some (.int .i64 field)∧w'.cell? ⟨w.heap.size,6,none⟩=some (.int .i64 n)∧w'.cell? ⟨w.heap.size,7,none⟩=some (.string text)) (simp [go_sem,World.cell?_alloc_past, *])
   (first
    | (go_at_call 21;refine (Picked_any _ _ _ (by omega) (by omega) (by omega) (by omega)).mono ?_;rintro e w' ⟨rfl,rfl⟩)
    | (go_at_call 66;refine (HC.out _).mono ?_;rintro e w1 ⟨rfl,hb1⟩;obtain ⟨hc1,hf1⟩:=bcell hb1;have hz:=hb1.size;simp at hz;have hz0:w.heap.size<w1.heap.size:=(by omega);have hz1:w.heap.size+1<w1.heap.size:=(by omega)))
  all_goals go_wp2_with fail
  all_goals refine bodyPost_ret (v:=callW (picked b 4,1+picked a 4,⟨ck,cy,cf,ct,cn⟩)) ?_ rfl ⟨rfl,below_by⟩
  all_goals simp [results,Tryz.results45,go_sem,callW, *]
def actV (x:ActD):Value:=.agg x.cells.toArray
theorem act_eq {g:GearD} {k:Int} (h:picked g.kind 20=k):actOf g=(if k<3 then ⟨1,picked g.a 3,0,(callOf g).1,(callOf g).2.1,(callOf g).2.2⟩
 else if k<5 then bareAct 2 (picked g.a 3) 0
 else if k<8 then bareAct 3 (picked g.a 3) 0
 else if k<12 then bareAct 4 (picked g.a 3) 0
 else if k=12 then bareAct 6 0 (picked g.b 300)
 else if k=13 then bareAct 7 0 (picked g.b 300)
 else if k=14 then bareAct 8 0 (picked g.b 300)
 else if k=15 then bareAct 9 (picked g.a 3) (picked g.b 500)
 else if k=16 then bareAct 10 (picked g.a 3) 0
 else if k=17 then bareAct 11 (picked g.a 3) 0
 else if k=18 then bareAct 5 (picked g.a 3) (picked g.b 40)
 else bareAct 12 0 0):=by subst h;rfl
set_option maxRecDepth 100000 in
theorem tact_any (g:GearD) (hg:g.ok) (w:World):Calls Tryz.prog 30 #[.agg #[.int .i64 g.kind,.int .i64 g.a,.int .i64 g.b,.int .i64 g.raw.kind,.int .i64 g.raw.key,.int .i64 g.raw.field,.int .i64 g.raw.n,.string g.raw.text]] w fun e w'=>e = .returned (actV (actOf g))∧Below w.heap.size w w':=by
 have hT:=fun w=>tcall_any g hg w
 obtain ⟨k,hk⟩:∃ k,picked g.kind 20=k:=⟨_,rfl⟩
 have hE:=act_eq hk
 have k0:=picked_lo g.kind 20 (by omega)
 have k1:=picked_hi g.kind 20 (by omega)
 have hP:=fun w=>Picked_any g.kind 20 w hg.1.1 hg.1.2 (by omega) (by omega)
 rw [hk] at hP k0 k1
 obtain ⟨_,⟨a1,a2⟩,⟨b1,b2⟩,_⟩:=hg
 have hA:=fun w=>Picked_any g.a 3 w a1 a2 (by omega) (by omega)
 have hB3:=fun w=>Picked_any g.b 300 w b1 b2 (by omega) (by omega)
 have hB5:=fun w=>Picked_any g.b 500 w b1 b2 (by omega) (by omega)
 have hB4:=fun w=>Picked_any g.b 40 w b1 b2 (by omega) (by omega)
 rw [hE]
 clear hE hk
 generalize callOf g=cl at *
 obtain ⟨cc,cs,ck,cy,cf,ct,cn⟩:=cl
 simp only [callW] at hT
 generalize picked g.a 3=n3 at *
 generalize picked g.b 300=b300 at *
 generalize picked g.b 500=b500 at *
 generalize picked g.b 40=b40 at *
 obtain ⟨kind,a,b,gk,key,field,n,text⟩:=g
 simp only at *
 have HT:=hide hT;have HP:=hide hP;have HA:=hide hA;have H3:=hide hB3;have H5:=hide hB5;have H4:=hide hB4
 clear hT hP hA hB3 hB5 hB4 a1 a2 b1 b2
 have hc:k=0∨k=1∨k=2∨k=3∨k=4∨k=5∨k=6∨k=7∨k=8∨k=9∨k=10∨k=11∨k=12∨k=13∨k=14∨k=15∨k=16∨k=17∨k=18∨k=19:=by omega
 clear k0 k1
 rcases hc with rfl|rfl|rfl|rfl|rfl|rfl|rfl|rfl|rfl|rfl|rfl|rfl|rfl|rfl|rfl|rfl|rfl|rfl|rfl|rfl
 ·rw [show actV (if (0:Int)<3 then ⟨1,n3,0,cc,cs,⟨ck,cy,cf,ct,cn⟩⟩ else _) = .agg #[.int .i64 1,.int .i64 n3,.int .i64 0,.int .i64 cc,.int .i64 cs,.int .i64 ck,.string cy,.string cf,.string ct,.int .i64 cn] by rw [if_pos (by decide)];rfl]
  go_enter Tryz.func30,Tryz.ntmps30
  go_wp2_with (first|(refine (HA.out _).mono ?_;rintro e w' ⟨rfl,rfl⟩)|(refine (HP.out _).mono ?_;rintro e w' ⟨rfl,rfl⟩)|(refine (HT.out _).mono ?_;rintro e w1 ⟨rfl,hb1⟩;obtain ⟨hc1,hf1⟩:=bcell hb1;have hz:=hb1.size;simp at hz;have hz0:w.heap.size<w1.heap.size:=(by omega);have hz1:w.heap.size+1<w1.heap.size:=(by omega)))
  refine bodyPost_ret (v:=.agg #[.int .i64 1,.int .i64 n3,.int .i64 0,.int .i64 cc,.int .i64 cs,.int .i64 ck,.string cy,.string cf,.string ct,.int .i64 cn]) ?_ rfl ⟨rfl,below_by⟩
  simp [results,Tryz.results30,go_sem, *]
 ·rw [show actV (if (1:Int)<3 then ⟨1,n3,0,cc,cs,⟨ck,cy,cf,ct,cn⟩⟩ else _) = .agg #[.int .i64 1,.int .i64 n3,.int .i64 0,.int .i64 cc,.int .i64 cs,.int .i64 ck,.string cy,.string cf,.string ct,.int .i64 cn] by rw [if_pos (by decide)];rfl]
  go_enter Tryz.func30,Tryz.ntmps30
  go_wp2_with (first|(refine (HA.out _).mono ?_;rintro e w' ⟨rfl,rfl⟩)|(refine (HP.out _).mono ?_;rintro e w' ⟨rfl,rfl⟩)|(refine (HT.out _).mono ?_;rintro e w1 ⟨rfl,hb1⟩;obtain ⟨hc1,hf1⟩:=bcell hb1;have hz:=hb1.size;simp at hz;have hz0:w.heap.size<w1.heap.size:=(by omega);have hz1:w.heap.size+1<w1.heap.size:=(by omega)))
  refine bodyPost_ret (v:=.agg #[.int .i64 1,.int .i64 n3,.int .i64 0,.int .i64 cc,.int .i64 cs,.int .i64 ck,.string cy,.string cf,.string ct,.int .i64 cn]) ?_ rfl ⟨rfl,below_by⟩
  simp [results,Tryz.results30,go_sem, *]
 ·rw [show actV (if (2:Int)<3 then ⟨1,n3,0,cc,cs,⟨ck,cy,cf,ct,cn⟩⟩ else _) = .agg #[.int .i64 1,.int .i64 n3,.int .i64 0,.int .i64 cc,.int .i64 cs,.int .i64 ck,.string cy,.string cf,.string ct,.int .i64 cn] by rw [if_pos (by decide)];rfl]
  go_enter Tryz.func30,Tryz.ntmps30
  go_wp2_with (first|(refine (HA.out _).mono ?_;rintro e w' ⟨rfl,rfl⟩)|(refine (HP.out _).mono ?_;rintro e w' ⟨rfl,rfl⟩)|(refine (HT.out _).mono ?_;rintro e w1 ⟨rfl,hb1⟩;obtain ⟨hc1,hf1⟩:=bcell hb1;have hz:=hb1.size;simp at hz;have hz0:w.heap.size<w1.heap.size:=(by omega);have hz1:w.heap.size+1<w1.heap.size:=(by omega)))
  refine bodyPost_ret (v:=.agg #[.int .i64 1,.int .i64 n3,.int .i64 0,.int .i64 cc,.int .i64 cs,.int .i64 ck,.string cy,.string cf,.string ct,.int .i64 cn]) ?_ rfl ⟨rfl,below_by⟩
  simp [results,Tryz.results30,go_sem, *]
 ·rw [show actV _ = .agg #[.int .i64 2,.int .i64 n3,.int .i64 0,.int .i64 0,.int .i64 0,.int .i64 0,.string { data:=#[] },.string { data:=#[] },.string { data:=#[] },.int .i64 0] from rfl]
  go_enter Tryz.func30,Tryz.ntmps30
  go_wp2_with (first|(refine (HA.out _).mono ?_;rintro e w' ⟨rfl,rfl⟩)|(refine (HP.out _).mono ?_;rintro e w' ⟨rfl,rfl⟩)|(refine (H3.out _).mono ?_;rintro e w' ⟨rfl,rfl⟩)|(refine (H5.out _).mono ?_;rintro e w' ⟨rfl,rfl⟩)|(refine (H4.out _).mono ?_;rintro e w' ⟨rfl,rfl⟩))
  refine bodyPost_ret (v:=.agg #[.int .i64 2,.int .i64 n3,.int .i64 0,.int .i64 0,.int .i64 0,.int .i64 0,.string { data:=#[] },.string { data:=#[] },.string { data:=#[] },.int .i64 0]) ?_ rfl ⟨rfl,below_by⟩
  simp [results,Tryz.results30,go_sem, *]
 ·rw [show actV _ = .agg #[.int .i64 2,.int .i64 n3,.int .i64 0,.int .i64 0,.int .i64 0,.int .i64 0,.string { data:=#[] },.string { data:=#[] },.string { data:=#[] },.int .i64 0] from rfl]
  go_enter Tryz.func30,Tryz.ntmps30
  go_wp2_with (first|(refine (HA.out _).mono ?_;rintro e w' ⟨rfl,rfl⟩)|(refine (HP.out _).mono ?_;rintro e w' ⟨rfl,rfl⟩)|(refine (H3.out _).mono ?_;rintro e w' ⟨rfl,rfl⟩)|(refine (H5.out _).mono ?_;rintro e w' ⟨rfl,rfl⟩)|(refine (H4.out _).mono ?_;rintro e w' ⟨rfl,rfl⟩))
  refine bodyPost_ret (v:=.agg #[.int .i64 2,.int .i64 n3,.int .i64 0,.int .i64 0,.int .i64 0,.int .i64 0,.string { data:=#[] },.string { data:=#[] },.string { data:=#[] },.int .i64 0]) ?_ rfl ⟨rfl,below_by⟩
  simp [results,Tryz.results30,go_sem, *]
 ·rw [show actV _ = .agg #[.int .i64 3,.int .i64 n3,.int .i64 0,.int .i64 0,.int .i64 0,.int .i64 0,.string { data:=#[] },.string { data:=#[] },.string { data:=#[] },.int .i64 0] from rfl]
  go_enter Tryz.func30,Tryz.ntmps30
  go_wp2_with (first|(refine (HA.out _).mono ?_;rintro e w' ⟨rfl,rfl⟩)|(refine (HP.out _).mono ?_;rintro e w' ⟨rfl,rfl⟩)|(refine (H3.out _).mono ?_;rintro e w' ⟨rfl,rfl⟩)|(refine (H5.out _).mono ?_;rintro e w' ⟨rfl,rfl⟩)|(refine (H4.out _).mono ?_;rintro e w' ⟨rfl,rfl⟩))
  refine bodyPost_ret (v:=.agg #[.int .i64 3,.int .i64 n3,.int .i64 0,.int .i64 0,.int .i64 0,.int .i64 0,.string { data:=#[] },.string { data:=#[] },.string { data:=#[] },.int .i64 0]) ?_ rfl ⟨rfl,below_by⟩
  simp [results,Tryz.results30,go_sem, *]
 ·rw [show actV _ = .agg #[.int .i64 3,.int .i64 n3,.int .i64 0,.int .i64 0,.int .i64 0,.int .i64 0,.string { data:=#[] },.string { data:=#[] },.string { data:=#[] },.int .i64 0] from rfl]
  go_enter Tryz.func30,Tryz.ntmps30
  go_wp2_with (first|(refine (HA.out _).mono ?_;rintro e w' ⟨rfl,rfl⟩)|(refine (HP.out _).mono ?_;rintro e w' ⟨rfl,rfl⟩)|(refine (H3.out _).mono ?_;rintro e w' ⟨rfl,rfl⟩)|(refine (H5.out _).mono ?_;rintro e w' ⟨rfl,rfl⟩)|(refine (H4.out _).mono ?_;rintro e w' ⟨rfl,rfl⟩))
  refine bodyPost_ret (v:=.agg #[.int .i64 3,.int .i64 n3,.int .i64 0,.int .i64 0,.int .i64 0,.int .i64 0,.string { data:=#[] },.string { data:=#[] },.string { data:=#[] },.int .i64 0]) ?_ rfl ⟨rfl,below_by⟩
  simp [results,Tryz.results30,go_sem, *]
 ·rw [show actV _ = .agg #[.int .i64 3,.int .i64 n3,.int .i64 0,.int .i64 0,.int .i64 0,.int .i64 0,.string { data:=#[] },.string { data:=#[] },.string { data:=#[] },.int .i64 0] from rfl]
  go_enter Tryz.func30,Tryz.ntmps30
  go_wp2_with (first|(refine (HA.out _).mono ?_;rintro e w' ⟨rfl,rfl⟩)|(refine (HP.out _).mono ?_;rintro e w' ⟨rfl,rfl⟩)|(refine (H3.out _).mono ?_;rintro e w' ⟨rfl,rfl⟩)|(refine (H5.out _).mono ?_;rintro e w' ⟨rfl,rfl⟩)|(refine (H4.out _).mono ?_;rintro e w' ⟨rfl,rfl⟩))
  refine bodyPost_ret (v:=.agg #[.int .i64 3,.int .i64 n3,.int .i64 0,.int .i64 0,.int .i64 0,.int .i64 0,.string { data:=#[] },.string { data:=#[] },.string { data:=#[] },.int .i64 0]) ?_ rfl ⟨rfl,below_by⟩
  simp [results,Tryz.results30,go_sem, *]
 ·rw [show actV _ = .agg #[.int .i64 4,.int .i64 n3,.int .i64 0,.int .i64 0,.int .i64 0,.int .i64 0,.string { data:=#[] },.string { data:=#[] },.string { data:=#[] },.int .i64 0] from rfl]
  go_enter Tryz.func30,Tryz.ntmps30
  go_wp2_with (first|(refine (HA.out _).mono ?_;rintro e w' ⟨rfl,rfl⟩)|(refine (HP.out _).mono ?_;rintro e w' ⟨rfl,rfl⟩)|(refine (H3.out _).mono ?_;rintro e w' ⟨rfl,rfl⟩)|(refine (H5.out _).mono ?_;rintro e w' ⟨rfl,rfl⟩)|(refine (H4.out _).mono ?_;rintro e w' ⟨rfl,rfl⟩))
  refine bodyPost_ret (v:=.agg #[.int .i64 4,.int .i64 n3,.int .i64 0,.int .i64 0,.int .i64 0,.int .i64 0,.string { data:=#[] },.string { data:=#[] },.string { data:=#[] },.int .i64 0]) ?_ rfl ⟨rfl,below_by⟩
  simp [results,Tryz.results30,go_sem, *]
 ·rw [show actV _ = .agg #[.int .i64 4,.int .i64 n3,.int .i64 0,.int .i64 0,.int .i64 0,.int .i64 0,.string { data:=#[] },.string { data:=#[] },.string { data:=#[] },.int .i64 0] from rfl]
  go_enter Tryz.func30,Tryz.ntmps30
  go_wp2_with (first|(refine (HA.out _).mono ?_;rintro e w' ⟨rfl,rfl⟩)|(refine (HP.out _).mono ?_;rintro e w' ⟨rfl,rfl⟩)|(refine (H3.out _).mono ?_;rintro e w' ⟨rfl,rfl⟩)|(refine (H5.out _).mono ?_;rintro e w' ⟨rfl,rfl⟩)|(refine (H4.out _).mono ?_;rintro e w' ⟨rfl,rfl⟩))
  refine bodyPost_ret (v:=.agg #[.int .i64 4,.int .i64 n3,.int .i64 0,.int .i64 0,.int .i64 0,.int .i64 0,.string { data:=#[] },.string { data:=#[] },.string { data:=#[] },.int .i64 0]) ?_ rfl ⟨rfl,below_by⟩
  simp [results,Tryz.results30,go_sem, *]
 ·rw [show actV _ = .agg #[.int .i64 4,.int .i64 n3,.int .i64 0,.int .i64 0,.int .i64 0,.int .i64 0,.string { data:=#[] },.string { data:=#[] },.string { data:=#[] },.int .i64 0] from rfl]
  go_enter Tryz.func30,Tryz.ntmps30
  go_wp2_with (first|(refine (HA.out _).mono ?_;rintro e w' ⟨rfl,rfl⟩)|(refine (HP.out _).mono ?_;rintro e w' ⟨rfl,rfl⟩)|(refine (H3.out _).mono ?_;rintro e w' ⟨rfl,rfl⟩)|(refine (H5.out _).mono ?_;rintro e w' ⟨rfl,rfl⟩)|(refine (H4.out _).mono ?_;rintro e w' ⟨rfl,rfl⟩))
  refine bodyPost_ret (v:=.agg #[.int .i64 4,.int .i64 n3,.int .i64 0,.int .i64 0,.int .i64 0,.int .i64 0,.string { data:=#[] },.string { data:=#[] },.string { data:=#[] },.int .i64 0]) ?_ rfl ⟨rfl,below_by⟩
  simp [results,Tryz.results30,go_sem, *]
 ·rw [show actV _ = .agg #[.int .i64 4,.int .i64 n3,.int .i64 0,.int .i64 0,.int .i64 0,.int .i64 0,.string { data:=#[] },.string { data:=#[] },.string { data:=#[] },.int .i64 0] from rfl]
  go_enter Tryz.func30,Tryz.ntmps30
  go_wp2_with (first|(refine (HA.out _).mono ?_;rintro e w' ⟨rfl,rfl⟩)|(refine (HP.out _).mono ?_;rintro e w' ⟨rfl,rfl⟩)|(refine (H3.out _).mono ?_;rintro e w' ⟨rfl,rfl⟩)|(refine (H5.out _).mono ?_;rintro e w' ⟨rfl,rfl⟩)|(refine (H4.out _).mono ?_;rintro e w' ⟨rfl,rfl⟩))
  refine bodyPost_ret (v:=.agg #[.int .i64 4,.int .i64 n3,.int .i64 0,.int .i64 0,.int .i64 0,.int .i64 0,.string { data:=#[] },.string { data:=#[] },.string { data:=#[] },.int .i64 0]) ?_ rfl ⟨rfl,below_by⟩
  simp [results,Tryz.results30,go_sem, *]
 ·rw [show actV _ = .agg #[.int .i64 6,.int .i64 0,.int .i64 b300,.int .i64 0,.int .i64 0,.int .i64 0,.string { data:=#[] },.string { data:=#[] },.string { data:=#[] },.int .i64 0] from rfl]
  go_enter Tryz.func30,Tryz.ntmps30
  go_wp2_with (first|(refine (HA.out _).mono ?_;rintro e w' ⟨rfl,rfl⟩)|(refine (HP.out _).mono ?_;rintro e w' ⟨rfl,rfl⟩)|(refine (H3.out _).mono ?_;rintro e w' ⟨rfl,rfl⟩)|(refine (H5.out _).mono ?_;rintro e w' ⟨rfl,rfl⟩)|(refine (H4.out _).mono ?_;rintro e w' ⟨rfl,rfl⟩))
  refine bodyPost_ret (v:=.agg #[.int .i64 6,.int .i64 0,.int .i64 b300,.int .i64 0,.int .i64 0,.int .i64 0,.string { data:=#[] },.string { data:=#[] },.string { data:=#[] },.int .i64 0]) ?_ rfl ⟨rfl,below_by⟩
  simp [results,Tryz.results30,go_sem, *]
 ·rw [show actV _ = .agg #[.int .i64 7,.int .i64 0,.int .i64 b300,.int .i64 0,.int .i64 0,.int .i64 0,.string { data:=#[] },.string { data:=#[] },.string { data:=#[] },.int .i64 0] from rfl]
  go_enter Tryz.func30,Tryz.ntmps30
  go_wp2_with (first|(refine (HA.out _).mono ?_;rintro e w' ⟨rfl,rfl⟩)|(refine (HP.out _).mono ?_;rintro e w' ⟨rfl,rfl⟩)|(refine (H3.out _).mono ?_;rintro e w' ⟨rfl,rfl⟩)|(refine (H5.out _).mono ?_;rintro e w' ⟨rfl,rfl⟩)|(refine (H4.out _).mono ?_;rintro e w' ⟨rfl,rfl⟩))
  refine bodyPost_ret (v:=.agg #[.int .i64 7,.int .i64 0,.int .i64 b300,.int .i64 0,.int .i64 0,.int .i64 0,.string { data:=#[] },.string { data:=#[] },.string { data:=#[] },.int .i64 0]) ?_ rfl ⟨rfl,below_by⟩
  simp [results,Tryz.results30,go_sem, *]
 ·rw [show actV _ = .agg #[.int .i64 8,.int .i64 0,.int .i64 b300,.int .i64 0,.int .i64 0,.int .i64 0,.string { data:=#[] },.string { data:=#[] },.string { data:=#[] },.int .i64 0] from rfl]
  go_enter Tryz.func30,Tryz.ntmps30
  go_wp2_with (first|(refine (HA.out _).mono ?_;rintro e w' ⟨rfl,rfl⟩)|(refine (HP.out _).mono ?_;rintro e w' ⟨rfl,rfl⟩)|(refine (H3.out _).mono ?_;rintro e w' ⟨rfl,rfl⟩)|(refine (H5.out _).mono ?_;rintro e w' ⟨rfl,rfl⟩)|(refine (H4.out _).mono ?_;rintro e w' ⟨rfl,rfl⟩))
  refine bodyPost_ret (v:=.agg #[.int .i64 8,.int .i64 0,.int .i64 b300,.int .i64 0,.int .i64 0,.int .i64 0,.string { data:=#[] },.string { data:=#[] },.string { data:=#[] },.int .i64 0]) ?_ rfl ⟨rfl,below_by⟩
  simp [results,Tryz.results30,go_sem, *]
 ·rw [show actV _ = .agg #[.int .i64 9,.int .i64 n3,.int .i64 b500,.int .i64 0,.int .i64 0,.int .i64 0,.string { data:=#[] },.string { data:=#[] },.string { data:=#[] },.int .i64 0] from rfl]
  go_enter Tryz.func30,Tryz.ntmps30
  go_wp2_with (first|(refine (HA.out _).mono ?_;rintro e w' ⟨rfl,rfl⟩)|(refine (HP.out _).mono ?_;rintro e w' ⟨rfl,rfl⟩)|(refine (H3.out _).mono ?_;rintro e w' ⟨rfl,rfl⟩)|(refine (H5.out _).mono ?_;rintro e w' ⟨rfl,rfl⟩)|(refine (H4.out _).mono ?_;rintro e w' ⟨rfl,rfl⟩))
  refine bodyPost_ret (v:=.agg #[.int .i64 9,.int .i64 n3,.int .i64 b500,.int .i64 0,.int .i64 0,.int .i64 0,.string { data:=#[] },.string { data:=#[] },.string { data:=#[] },.int .i64 0]) ?_ rfl ⟨rfl,below_by⟩
  simp [results,Tryz.results30,go_sem, *]
 ·rw [show actV _ = .agg #[.int .i64 10,.int .i64 n3,.int .i64 0,.int .i64 0,.int .i64 0,.int .i64 0,.string { data:=#[] },.string { data:=#[] },.string { data:=#[] },.int .i64 0] from rfl]
  go_enter Tryz.func30,Tryz.ntmps30
  go_wp2_with (first|(refine (HA.out _).mono ?_;rintro e w' ⟨rfl,rfl⟩)|(refine (HP.out _).mono ?_;rintro e w' ⟨rfl,rfl⟩)|(refine (H3.out _).mono ?_;rintro e w' ⟨rfl,rfl⟩)|(refine (H5.out _).mono ?_;rintro e w' ⟨rfl,rfl⟩)|(refine (H4.out _).mono ?_;rintro e w' ⟨rfl,rfl⟩))
  refine bodyPost_ret (v:=.agg #[.int .i64 10,.int .i64 n3,.int .i64 0,.int .i64 0,.int .i64 0,.int .i64 0,.string { data:=#[] },.string { data:=#[] },.string { data:=#[] },.int .i64 0]) ?_ rfl ⟨rfl,below_by⟩
  simp [results,Tryz.results30,go_sem, *]
 ·rw [show actV _ = .agg #[.int .i64 11,.int .i64 n3,.int .i64 0,.int .i64 0,.int .i64 0,.int .i64 0,.string { data:=#[] },.string { data:=#[] },.string { data:=#[] },.int .i64 0] from rfl]
  go_enter Tryz.func30,Tryz.ntmps30
  go_wp2_with (first|(refine (HA.out _).mono ?_;rintro e w' ⟨rfl,rfl⟩)|(refine (HP.out _).mono ?_;rintro e w' ⟨rfl,rfl⟩)|(refine (H3.out _).mono ?_;rintro e w' ⟨rfl,rfl⟩)|(refine (H5.out _).mono ?_;rintro e w' ⟨rfl,rfl⟩)|(refine (H4.out _).mono ?_;rintro e w' ⟨rfl,rfl⟩))
  refine bodyPost_ret (v:=.agg #[.int .i64 11,.int .i64 n3,.int .i64 0,.int .i64 0,.int .i64 0,.int .i64 0,.string { data:=#[] },.string { data:=#[] },.string { data:=#[] },.int .i64 0]) ?_ rfl ⟨rfl,below_by⟩
  simp [results,Tryz.results30,go_sem, *]
 ·rw [show actV _ = .agg #[.int .i64 5,.int .i64 n3,.int .i64 b40,.int .i64 0,.int .i64 0,.int .i64 0,.string { data:=#[] },.string { data:=#[] },.string { data:=#[] },.int .i64 0] from rfl]
  go_enter Tryz.func30,Tryz.ntmps30
  go_wp2_with (first|(refine (HA.out _).mono ?_;rintro e w' ⟨rfl,rfl⟩)|(refine (HP.out _).mono ?_;rintro e w' ⟨rfl,rfl⟩)|(refine (H3.out _).mono ?_;rintro e w' ⟨rfl,rfl⟩)|(refine (H5.out _).mono ?_;rintro e w' ⟨rfl,rfl⟩)|(refine (H4.out _).mono ?_;rintro e w' ⟨rfl,rfl⟩))
  refine bodyPost_ret (v:=.agg #[.int .i64 5,.int .i64 n3,.int .i64 b40,.int .i64 0,.int .i64 0,.int .i64 0,.string { data:=#[] },.string { data:=#[] },.string { data:=#[] },.int .i64 0]) ?_ rfl ⟨rfl,below_by⟩
  simp [results,Tryz.results30,go_sem, *]
 ·rw [show actV _ = .agg #[.int .i64 12,.int .i64 0,.int .i64 0,.int .i64 0,.int .i64 0,.int .i64 0,.string { data:=#[] },.string { data:=#[] },.string { data:=#[] },.int .i64 0] from rfl]
  go_enter Tryz.func30,Tryz.ntmps30
  go_wp2_with (first|(refine (HA.out _).mono ?_;rintro e w' ⟨rfl,rfl⟩)|(refine (HP.out _).mono ?_;rintro e w' ⟨rfl,rfl⟩)|(refine (H3.out _).mono ?_;rintro e w' ⟨rfl,rfl⟩)|(refine (H5.out _).mono ?_;rintro e w' ⟨rfl,rfl⟩)|(refine (H4.out _).mono ?_;rintro e w' ⟨rfl,rfl⟩))
  refine bodyPost_ret (v:=.agg #[.int .i64 12,.int .i64 0,.int .i64 0,.int .i64 0,.int .i64 0,.int .i64 0,.string { data:=#[] },.string { data:=#[] },.string { data:=#[] },.int .i64 0]) ?_ rfl ⟨rfl,below_by⟩
  simp [results,Tryz.results30,go_sem, *]
end Go.Proofs.YtgdcofbnbiclmaaGreatDoor

namespace Go.Proofs.YtgdcofbnbiclmaaGreatDoor
set_option linter.all false
set_option maxHeartbeats 32000000
open Go.RowKit Go.ChangeShapes Go.WideShapes
def gearAtoms:List Atom:=[.int .i64,.int .i64,.int .i64,.int .i64,.int .i64,.int .i64,.int .i64,.str]
theorem fits_gear {l:List Value} (h:Fits gearAtoms l):∃ d:GearD,l=d.cells∧d.ok:=by
 obtain ⟨_,_,rfl,⟨x,rfl,hx⟩,h_1⟩:=fits_cons h
 obtain ⟨_,_,rfl,⟨y,rfl,hy⟩,h_2⟩:=fits_cons h_1
 obtain ⟨_,_,rfl,⟨z,rfl,hz⟩,h_3⟩:=fits_cons h_2
 obtain ⟨⟨a,b,c,d,s⟩,rfl,ha,hb,hc,hd,hs⟩:=fits_raw h_3
 exact ⟨⟨x,y,z,⟨a,b,c,d,s⟩⟩,rfl,i64_bounds hx,i64_bounds hy,i64_bounds hz,ha,hb,hc,hd,hs⟩
theorem gear_atoms:atoms Tryz.prog 3 62=some gearAtoms:=by kernel_rfl
structure GearAt (w:World) (b o:Nat) (d:GearD):Prop where
 c0:w.cell? ⟨b,o,none⟩=some (.int .i64 d.kind)
 c1:w.cell? ⟨b,o+1,none⟩=some (.int .i64 d.a)
 c2:w.cell? ⟨b,o+2,none⟩=some (.int .i64 d.b)
 c3:w.cell? ⟨b,o+3,none⟩=some (.int .i64 d.raw.kind)
 c4:w.cell? ⟨b,o+4,none⟩=some (.int .i64 d.raw.key)
 c5:w.cell? ⟨b,o+5,none⟩=some (.int .i64 d.raw.field)
 c6:w.cell? ⟨b,o+6,none⟩=some (.int .i64 d.raw.n)
 c7:w.cell? ⟨b,o+7,none⟩=some (.string d.raw.text)
def gearRows (l:List GearD):List (List Value):=l.map GearD.cells
theorem Sl.gear {w:World} {A:Option Addr} {n c:Nat} {l:List GearD} (h:Sl w 8 A n c (gearRows l)) {k:Nat} (hk:k<l.length) :
  ∃ b off,A=some ⟨b,off,none⟩∧b<w.heap.size∧GearAt w b (off+k*8) l[k]:=by
 obtain ⟨b,off,e,hb,hc⟩:=h.seg.at_ (i:=k) (by simpa [gearRows] using hk)
 have hc':∀ j u,l[k].cells[j]?=some u→w.cell? ⟨b,off+k*8+j,none⟩=some u:=by
  intro j u hu
  rw [Nat.add_assoc]
  exact hc j u (by simpa [gearRows] using hu)
 exact ⟨b,off,e,hb,hc' 0 _ rfl,hc' 1 _ rfl,hc' 2 _ rfl,hc' 3 _ rfl,hc' 4 _ rfl,hc' 5 _ rfl,hc' 6 _ rfl,hc' 7 _ rfl⟩
theorem gear_len {w:World} {A:Option Addr} {n c:Nat} {l:List GearD} (h:Sl w 8 A n c (gearRows l)):l.length=n:=by have:=h.len;simpa [gearRows] using this
set_option maxRecDepth 100000 in
theorem open_gears {H:Type} {enc:TypeId×Value→H} {w:World} {base:Nat} {spare:Nat→Bool} {held:Bool} {v:Value} {d:DataW H} {p:List MemPlace} {r:Reach} {b0:Nat} (hv:Value.okWide Tryz.prog w r b0 22 v) (h:DataW.Trod enc Tryz.prog w base spare held 22 v d p) :
  ∃ A n c,∃ l:List GearD,v = .slice A n c∧(∀ x∈l,x.ok)∧Sl w 8 A n c (gearRows l):=by
 obtain ⟨a0,len,cap,rfl⟩:=okWide_slice Tryz.underlying22 hv
 obtain ⟨fuel,hf⟩:=h
 obtain ⟨A,n,c,rows,he,h3,h4⟩:=seg_of_slice 3 Tryz.underlying22 gear_atoms (by kernel_rfl) (by decide) hf
 obtain ⟨l,rfl,hl⟩:=rows_map fits_gear rows h3
 exact ⟨A,n,c,l,he,hl,h4⟩
theorem act_info:(Tryz.prog.info? 40).map (fun i=>(i.zero,i.size,i.bytes))=some (some (.agg #[.int .i64 0,.int .i64 0,.int .i64 0,.int .i64 0,.int .i64 0,.int .i64 0,.string ByteArray.empty,.string ByteArray.empty,.string ByteArray.empty,.int .i64 0]),10,104):=by kernel_rfl
theorem act_cells_one (x:ActD):∀ u∈x.cells,u.oneCell'=true:=List.all_eq_true.1 (show x.cells.all (fun u=>u.oneCell')=true from rfl)
theorem actRows_snoc (l:List ActD) (x:ActD):actRows (l ++ [x])=actRows l ++ [x.cells]:=by simp [actRows]
theorem actRows_length (l:List ActD):(actRows l).length=l.length:=by simp [actRows]
theorem acts_step {l:List GearD} {k most:Nat} (h:k<l.length):actsOf l k ++ [actOf l[k]]=actsOf l (k+1):=by
 unfold actsOf;rw [List.take_succ_eq_append_getElem h,List.map_append];rfl
theorem acts_end {l:List GearD} {k most:Nat} (hk:k≤l.length) (hm:k≤most) (h:¬ (k<l.length∧k<most)):actsOf l k=actsOf l most:=by
 unfold actsOf
 rcases Nat.lt_or_ge k most with h1|h1
 ·rw [List.take_of_length_le (by omega),List.take_of_length_le (by omega)]
 ·rw [show k=most by omega]
theorem acts_len (l:List GearD) (k:Nat) (hk:k≤l.length):(actsOf l k).length=k:=by simp [actsOf];omega
set_option maxRecDepth 100000 in
theorem acts_any (A:Option Addr) (n c:Nat) (l:List GearD) (most:Nat) (hmost:most≤1000) (w:World) (hS:Sl w 8 A n c (gearRows l)) (hd:∀ d∈l,d.ok) :
  Calls Tryz.prog 23 #[.slice A n c,.int .i64 (most:Int)] w fun e w'=>∃ v,e = .returned v∧Own w' w.heap.size 40 10 v (actRows (actsOf l most))∧Below w.heap.size w w':=by
 have hn:=gear_len hS
 subst hn
 have hlm:=hS.nc
 have hlm':=hS.cm
 unfold maxLen at hlm'
 have HD:=hide hd;clear hd
 go_enter Tryz.func23,Tryz.ntmps23
 go_wp2_with fail
 go_loopw [5,6] (fun s5 s6 wr=>∃ k:Nat,k≤l.length∧k≤most∧s6 = .int .i64 k∧Own wr w.heap.size 40 10 s5 (actRows (actsOf l k))∧Below w.heap.size w wr)
  (fun _ s6 _=>l.length - (intOf s6).toNat)
 case atStart=>exact ⟨0,by omega,by omega,rfl,Own.nil,below_by⟩
 case round=>
  obtain ⟨k,hk,hk30,rfl,hown,hbr⟩:=hrel
  have hbs:=hbr.size
  by_cases hlt:k<l.length∧k<most
  ·obtain ⟨hlt,hlt30⟩:=hlt
   have i1:(k:Int)<(most:Int):=by omega
   obtain ⟨b,off,rfl,hbb,⟨i0,i1,i2,i3,i4,i5,i6,i7⟩⟩:=(hS.below hbr).gear hlt
   have HQ:=hide (acts_step (most:=most) hlt)
   have HL:=hide (acts_len l k hk)
   have hdk:(l[k]).ok:=HD.out _ (List.getElem_mem hlt)
   generalize l[k]=d at i0 i1 i2 i3 i4 i5 i6 i7 HQ hdk
   have hI:=fun w=>tact_any d hdk w
   generalize actOf d=x at hI HQ
   obtain ⟨xk,xn,xp,xc,xs,⟨ck,cy,cf,ct,cn⟩⟩:=x
   simp only [actV,ActD.cells] at hI
   have HI:=hide hI;clear hI hdk
   go_wp2_with (first
    | (go_at_call 30;refine (HI.out _).mono ?_;rintro e w1 ⟨rfl,hb1⟩;obtain ⟨hc1,hf1⟩:=bcell hb1;have hz1:=hb1.size;have hz2:b<w1.heap.size:=(by omega);have hown1:=hown.below hb1)
    | (at_builtin;refine wpList_push rfl _ _ _ rfl Tryz.underlying24 act_info rfl (by decide) (by rfl) (hown1.alloc _) (H:=w1.heap.size+1) (by simp) (by rfl) rfl (act_cells_one ⟨xk,xn,xp,xc,xs,⟨ck,cy,cf,ct,cn⟩⟩) ?_ ?_ ?_ ?_))
   ·rw [actRows_length,HL.out];unfold maxLen;omega
   ·rw [actRows_length,HL.out];omega
   ·simp;omega
   ·intro v' w2 hown2 hb2 hz3
    have hown3:Own w2 w.heap.size 40 10 v' (actRows (actsOf l (k+1))):=by rw [←HQ.out,actRows_snoc];exact hown2
    go_wp2_with fail
    go_roundw
    case rel=>exact ⟨k+1,by omega,by omega,by go_num,hown3,below_by⟩
    case measure=>simp [intOf];omega
  ·have HE:=hide (acts_end hk hk30 hlt)
   by_cases h1:k<l.length
   ·have h30:k=most:=by omega
    have h30':¬ ((k:Int)<(most:Int)):=by omega
    clear h30
    go_wp2_with fail
    go_ret
    exact ⟨_,rfl,by rw [←HE.out];exact hown,below_by⟩
   ·go_wp2_with fail
    go_ret
    exact ⟨_,rfl,by rw [←HE.out];exact hown,below_by⟩
end Go.Proofs.YtgdcofbnbiclmaaGreatDoor

