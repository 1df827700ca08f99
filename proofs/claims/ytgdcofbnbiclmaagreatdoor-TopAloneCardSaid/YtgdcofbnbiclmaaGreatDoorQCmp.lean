import Derived.Test.YtgdcofbnbiclmaaGreatDoorQHeldX
import Derived.Lib.Bytealg
import Derived.Deep.RegionHeld3
import Derived.Deep.DeepCutAuto
import Derived.Sort.Walk0
namespace Go.Proofs.YtgdcofbnbiclmaaGreatDoor
set_option linter.all false
set_option maxHeartbeats 32000000
open Go.RowKit
set_option maxRecDepth 100000
def cmpB (a b:ByteArray):Int:=Lib.compareBytes a.data.toList b.data.toList
def cmpI (a b:Int):Int:=if a<b then -1 else if b<a then 1 else 0
theorem CompareString_ (a b:ByteArray) (w:World) :
  Calls Tryz.prog 180 #[.string a,.string b] w fun e w'=>e = .returned (.int .i64 (cmpB a b))∧w=w':=by
 go_enter Tryz.func180,Tryz.ntmps180
 go_wp2
 have e1:(callFunc 212 #[.string a,.string b]).run Tryz.prog w = .ok (.value (.int .i64 (cmpB a b))) w:=by
  rw [run_callFunc_extern Tryz.func212 (by kernel_rfl) (by kernel_rfl) (by kernel_rfl) (e:=Extern.BytealgCompare.compare) (by kernel_rfl),Lib.run_compareString];rfl
 rw [e1]
 rw [Oper.upon_value]
 go_wp2
 go_ret
 exact ⟨rfl,rfl⟩
theorem Compare_str (a b:ByteArray) (w:World) :
  Calls Tryz.prog 152 #[.string a,.string b] w fun e w'=>e = .returned (.int .i64 (cmpB a b))∧w=w':=by
 go_enter Tryz.func152,Tryz.ntmps152
 go_wp2_with (go_at_call 180;refine (CompareString_ _ _ _).mono ?_;rintro e w' ⟨rfl,rfl⟩)
 go_ret
 exact ⟨rfl,rfl⟩
theorem isNaN_int (a:Int) (w:World) :
  Calls Tryz.prog 211 #[.int .i64 a] w fun e w'=>e = .returned (.bool false)∧w=w':=by
 go_enter Tryz.func211,Tryz.ntmps211
 go_wp2_with fail
 go_ret
 exact ⟨by simp,rfl⟩
theorem Compare_int (a b:Int) (w:World) :
  Calls Tryz.prog 179 #[.int .i64 a,.int .i64 b] w fun e w'=>e = .returned (.int .i64 (cmpI a b))∧w=w':=by
 rcases Int.lt_trichotomy a b with h|h|h
 ·have e1:cmpI a b = -1:=by simp [cmpI,h]
  rw [e1]
  go_enter Tryz.func179,Tryz.ntmps179
  go_wp2_with (go_at_call 211;refine (isNaN_int _ _).mono ?_;rintro e w' ⟨rfl,rfl⟩)
  go_ret
  exact ⟨rfl,rfl⟩
 ·have e1:cmpI a b=0:=by simp [cmpI,h]
  rw [e1]
  subst h
  go_enter Tryz.func179,Tryz.ntmps179
  go_wp2_with (go_at_call 211;refine (isNaN_int _ _).mono ?_;rintro e w' ⟨rfl,rfl⟩)
  go_ret
  exact ⟨rfl,rfl⟩
 ·have e1:cmpI a b=1:=by simp [cmpI,h];omega
  rw [e1]
  have h2:¬ a<b:=by omega
  go_enter Tryz.func179,Tryz.ntmps179
  go_wp2_with (go_at_call 211;refine (isNaN_int _ _).mono ?_;rintro e w' ⟨rfl,rfl⟩)
  go_ret
  exact ⟨rfl,rfl⟩
theorem byField_ (a b:Pr) (w:World) :
  Calls Tryz.prog 148 #[.agg #[.string a.field,.string a.text],.agg #[.string b.field,.string b.text]] w fun e w'=>e = .returned (.int .i64 (cmpB a.field b.field))∧Below w.heap.size w w':=by
 go_enter Tryz.func148,Tryz.ntmps148
 go_wp2_with (go_at_call 152;refine (Compare_str _ _ _).mono ?_;rintro e w' ⟨rfl,rfl⟩)
 go_ret
 exact ⟨rfl,below_by⟩
section
variable {α:Type} (cmp:α→α→Int)
def risesBy:List α→Bool
 | a :: b :: t=>decide (cmp a b<0) && risesBy (b :: t)
 | _=>true
theorem rises_short {l:List α} {k:Nat} (h:l.length≤k+1):risesBy cmp (l.drop k)=true:=by
 have:(l.drop k).length≤1:=by rw [List.length_drop];omega
 match h2:l.drop k with
 | []=>rfl
 | [a]=>rfl
 | a :: b :: t=>rw [h2] at this;simp at this
theorem rises_next {l:List α} {k:Nat} (h:k+1<l.length):risesBy cmp (l.drop k)=(decide (cmp l[k] l[k+1]<0) && risesBy cmp (l.drop (k+1))):=by
 rw [List.drop_eq_getElem_cons (i:=k) (by omega),List.drop_eq_getElem_cons (i:=k+1) h]
 rfl
end
theorem rising_pair (A:Option Addr) (n c:Nat) (l:List Pr) (w:World) (hln:l.length=n) (hl:l.length≤1048576) (h:Seg w 2 A (pairRows l)) :
  Calls Tryz.prog 147 #[.slice A n c,.func (.func 148) #[] #[]] w fun e w'=>e = .returned (.bool (risesBy (fun a b:Pr=>cmpB a.field b.field) l))∧Below w.heap.size w w':=by
 subst hln
 go_enter Tryz.func147,Tryz.ntmps147
 go_wp2
 go_loopw [5] (fun s wr=>∃ k:Nat,(k=0∨k+1≤l.length)∧s = .int .i64 (k+1:Nat)∧Hid (risesBy (fun a b:Pr=>cmpB a.field b.field) l=risesBy (fun a b:Pr=>cmpB a.field b.field) (l.drop k))∧Below w.heap.size w wr) (fun s _=>l.length - (intOf s).toNat)
 case atStart=>exact ⟨0,.inl rfl,rfl,rfl,below_by⟩
 case round=>
  obtain ⟨k,hk,rfl,HQ,hbr⟩:=hrel
  by_cases hlt:k+1<l.length
  ·have hs:=h.below hbr
   obtain ⟨b,off,rfl,hb,p0,p1⟩:=hs.pair (show k<l.length by omega)
   obtain ⟨b',off',e1,hb',q0,q1⟩:=hs.pair hlt
   obtain ⟨rfl,rfl⟩:b=b'∧off=off':=by simpa using e1
   obtain ⟨i,hi⟩:∃ i:Int,i=((k+1:Nat):Int):=⟨_,rfl⟩
   obtain ⟨j,hj⟩:∃ j:Int,j=(k:Int):=⟨_,rfl⟩
   have hw:IntKind.i64.wrap (i - 1)=j:=by rw [IntWalk.i64_in _ (by omega)];omega
   have hlt1:i<l.length:=by omega
   have hlt2:j<l.length:=by omega
   have hlt3:0≤i:=by omega
   have hlt4:0≤j:=by omega
   have t1:i.toNat=k+1:=by omega
   have t2:j.toNat=k:=by omega
   rw [←hi]
   have HI:=hide hi
   clear hi hj
   go_upto_region 4 with fail
   go_cut [23] (fun s wx=>s = .bool (decide (0≤cmpB l[k].field l[k+1].field))∧Below w.heap.size w wx)
   case first=>
    obtain ⟨x,hx⟩:∃ x,x=l[k]:=⟨_,rfl⟩
    obtain ⟨y,hy⟩:∃ y,y=l[k+1]:=⟨_,rfl⟩
    rw [←hx] at p0 p1
    rw [←hy] at q0 q1
    have HX:=hide hx
    have HY:=hide hy
    clear hx hy HQ
    go_region_held3 (fun w'=>w'.cell? ⟨b,off+k*2,none⟩=some (.string x.field)∧w'.cell? ⟨b,off+k*2+1,none⟩=some (.string x.text)∧w'.cell? ⟨b,off+(k+1)*2,none⟩=some (.string y.field)∧w'.cell? ⟨b,off+(k+1)*2+1,none⟩=some (.string y.text)) (simp [go_sem,World.cell?_alloc_past, *]) (first|(go_at_call 148;refine (byField_ x y _).mono ?_;rintro e w2 ⟨rfl,hb2⟩;have r0:=((bcell hb2).1 b (off+k*2) hb).trans p0;have r1:=((bcell hb2).1 b (off+k*2+1) hb).trans p1;have r2:=((bcell hb2).1 b (off+(k+1)*2) hb).trans q0;have r3:=((bcell hb2).1 b (off+(k+1)*2+1) hb).trans q1))
    all_goals (go_wp2_with fail;go_meet)
    all_goals exact ⟨by rw [←HX.out,←HY.out],below_by⟩
   case rest=>
    obtain ⟨rfl,hbx⟩:=hcut
    have HN:=hide (HQ.out.trans (rises_next (fun a b:Pr=>cmpB a.field b.field) hlt))
    by_cases hc:0≤cmpB l[k].field l[k+1].field
    ·have hr:Hid (risesBy (fun a b:Pr=>cmpB a.field b.field) l=false):=hide (by rw [HN.out];simp;omega)
     clear HN
     go_wp2_with fail
     go_ret
     exact ⟨by rw [hr.out];rfl,hbx⟩
    ·have hr:Hid (risesBy (fun a b:Pr=>cmpB a.field b.field) l=risesBy (fun a b:Pr=>cmpB a.field b.field) (l.drop (k+1))):=hide (by rw [HN.out];simp;omega)
     have hw2:IntKind.i64.wrap (i+1)=((k+1+1:Nat):Int):=by have H1:=HI.out;rw [IntWalk.i64_in _ (by omega)];omega
     clear HN
     go_wp2_with fail
     go_round
     case rel=>exact ⟨k+1,.inr (by omega),rfl,hr,hbx⟩
     case measure=>have H1:=HI.out;simp [intOf];omega
  ·have hr:Hid (risesBy (fun a b:Pr=>cmpB a.field b.field) l=true):=hide (by rw [HQ.out];exact rises_short _ (by omega))
   have hge:¬ (((k+1:Nat):Int)<l.length):=by omega
   go_wp2_with fail
   go_ret
   exact ⟨by rw [hr.out];rfl,hbr⟩
theorem Or_int2 (g:Nat) (x y:Int) (w:World) (h0:w.cell? ⟨g,0,none⟩=some (.int .i64 x)) (h1:w.cell? ⟨g,1,none⟩=some (.int .i64 y)) :
  Calls Tryz.prog 178 #[.slice (some ⟨g,0,none⟩) 2 2] w fun e w'=>e = .returned (.int .i64 (if x≠0 then x else y))∧w=w':=by
 go_enter Tryz.func178,Tryz.ntmps178
 go_wp2
 go_loop [5,8] (fun _ i=>∃ k:Nat,k≤2∧i = .int .i64 k∧(1≤k→x=0)∧(2≤k→y=0)) (fun _ i=>2 - (intOf i).toNat)
 case atStart=>exact ⟨0,by omega,rfl,by omega,by omega⟩
 case round=>
  obtain ⟨k,hk,rfl,hx,hy⟩:=hrel
  by_cases k0:k=0
  ·subst k0
   by_cases hx0:x=0
   ·go_wp2_with fail
    go_round
    case rel=>exact ⟨1,by omega,by go_num,fun _=>hx0,by omega⟩
    case measure=>simp [intOf]
   ·go_wp2_with fail
    go_ret
    exact ⟨rfl,rfl⟩
  ·by_cases k1:k=1
   ·subst k1
    have hx0:=hx (by omega)
    subst hx0
    by_cases hy0:y=0
    ·go_wp2_with fail
     go_round
     case rel=>exact ⟨2,by omega,by go_num,by simp,fun _=>hy0⟩
     case measure=>simp [intOf]
    ·go_wp2_with fail
     go_ret
     exact ⟨rfl,rfl⟩
   ·obtain rfl:k=2:=by omega
    have hx0:=hx (by omega)
    have hy0:=hy (by omega)
    subst hx0
    subst hy0
    go_wp2_with fail
    go_ret
    exact ⟨rfl,rfl⟩
theorem cb_lt:∀ (a b:List UInt8),Lib.compareBytes a b<0 ↔ a<b
 | [],[]=>by simp [Lib.compareBytes]
 | [],b :: bs=>by simp [Lib.compareBytes]
 | a :: as_,[]=>by simp [Lib.compareBytes]
 | a :: as_,b :: bs=>by
  unfold Lib.compareBytes
  rw [List.cons_lt_cons_iff]
  by_cases h:a<b
  ·simp [h]
  ·by_cases h2:b<a
   ·have:a≠b:=fun e=>by subst e;exact h h2
    simp [h,h2,this]
   ·have e:a=b:=UInt8.le_antisymm (UInt8.not_lt.1 h2) (UInt8.not_lt.1 h)
    subst e
    simp [h,cb_lt as_ bs]
theorem cb_eq:∀ (a b:List UInt8),Lib.compareBytes a b=0 ↔ a=b
 | [],[]=>by simp [Lib.compareBytes]
 | [],b :: bs=>by simp [Lib.compareBytes]
 | a :: as_,[]=>by simp [Lib.compareBytes]
 | a :: as_,b :: bs=>by
  unfold Lib.compareBytes
  by_cases h:a<b
  ·have:a≠b:=fun e=>by subst e;exact UInt8.lt_irrefl _ h
   simp [h,this]
  ·by_cases h2:b<a
   ·have:a≠b:=fun e=>by subst e;exact h h2
    simp [h,h2,this]
   ·have e:a=b:=UInt8.le_antisymm (UInt8.not_lt.1 h2) (UInt8.not_lt.1 h)
    subst e
    simp [h,cb_eq as_ bs]
theorem bytes_ext {a b:ByteArray} (h:a.data.toList=b.data.toList):a=b:=by
 cases a with
 | mk x=>cases b with
  | mk y=>exact congrArg ByteArray.mk (Array.toList_inj.1 h)
theorem cmpB_eq {a b:ByteArray}:cmpB a b=0 ↔ a=b:=by
 unfold cmpB
 rw [cb_eq]
 exact ⟨bytes_ext,fun h=>by rw [h]⟩
theorem cmpB_trans {a b c:ByteArray} (h:cmpB a b<0) (k:cmpB b c<0):cmpB a c<0:=by
 unfold cmpB at *
 rw [cb_lt] at *
 exact List.lt_trans h k
theorem cmpB_less (a b:ByteArray):Op.bytesLess a.toList b.toList=decide (cmpB a b<0):=by
 rw [bytesLess_eq,Lib.toList_data,Lib.toList_data]
 exact decide_eq_decide.2 (cb_lt _ _).symm
theorem cmpI_lt {a b:Int}:cmpI a b<0 ↔ a<b:=by unfold cmpI;(repeat' split) <;> omega
theorem cmpI_eq {a b:Int}:cmpI a b=0 ↔ a=b:=by unfold cmpI;(repeat' split) <;> omega
def cmpS (a b:Sc):Int:=if cmpI a.n b.n≠0 then cmpI a.n b.n else cmpB a.member b.member
theorem cmpS_lt {a b:Sc}:cmpS a b<0 ↔ a.n<b.n∨(a.n=b.n∧cmpB a.member b.member<0):=by
 have h1:=@cmpI_lt a.n b.n;have h2:=@cmpI_eq a.n b.n
 unfold cmpS;split <;> omega
theorem cmpS_trans {a b c:Sc} (h:cmpS a b<0) (k:cmpS b c<0):cmpS a c<0:=by
 rw [cmpS_lt] at *
 rcases h with h|⟨h,h'⟩ <;> rcases k with k|⟨k,k'⟩
 ·left;omega
 ·left;omega
 ·left;omega
 ·right;exact ⟨by omega,cmpB_trans h' k'⟩
theorem rising_str (A:Option Addr) (n c:Nat) (l:List ByteArray) (w:World) (hln:l.length=n) (hl:l.length≤1048576) (h:Seg w 1 A (strRows l)) :
  Calls Tryz.prog 151 #[.slice A n c,.func (.func 152) #[] #[]] w fun e w'=>e = .returned (.bool (risesBy cmpB l))∧Below w.heap.size w w':=by
 subst hln
 go_enter Tryz.func151,Tryz.ntmps151
 go_wp2
 go_loopw [5] (fun s wr=>∃ k:Nat,(k=0∨k+1≤l.length)∧s = .int .i64 (k+1:Nat)∧Hid (risesBy cmpB l=risesBy cmpB (l.drop k))∧Below w.heap.size w wr) (fun s _=>l.length - (intOf s).toNat)
 case atStart=>exact ⟨0,.inl rfl,rfl,rfl,below_by⟩
 case round=>
  obtain ⟨k,hk,rfl,HQ,hbr⟩:=hrel
  by_cases hlt:k+1<l.length
  ·have hs:=h.below hbr
   obtain ⟨b,off,rfl,hb,p0⟩:=hs.str (show k<l.length by omega)
   obtain ⟨b',off',e1,hb',q0⟩:=hs.str hlt
   obtain ⟨rfl,rfl⟩:b=b'∧off=off':=by simpa using e1
   obtain ⟨i,hi⟩:∃ i:Int,i=((k+1:Nat):Int):=⟨_,rfl⟩
   obtain ⟨j,hj⟩:∃ j:Int,j=(k:Int):=⟨_,rfl⟩
   have hw:IntKind.i64.wrap (i - 1)=j:=by rw [IntWalk.i64_in _ (by omega)];omega
   have hlt1:i<l.length:=by omega
   have hlt2:j<l.length:=by omega
   have hlt3:0≤i:=by omega
   have hlt4:0≤j:=by omega
   have t1:i.toNat=k+1:=by omega
   have t2:j.toNat=k:=by omega
   rw [←hi]
   have HI:=hide hi
   clear hi hj
   go_upto_region 4 with fail
   go_cut [23] (fun s wx=>s = .bool (decide (0≤cmpB l[k] l[k+1]))∧Below w.heap.size w wx)
   case first=>
    obtain ⟨x,hx⟩:∃ x,x=l[k]:=⟨_,rfl⟩
    obtain ⟨y,hy⟩:∃ y,y=l[k+1]:=⟨_,rfl⟩
    rw [←hx] at p0
    rw [←hy] at q0
    have HX:=hide hx
    have HY:=hide hy
    clear hx hy HQ
    go_region_held3 (fun w'=>w'.cell? ⟨b,off+k,none⟩=some (.string x)∧w'.cell? ⟨b,off+(k+1),none⟩=some (.string y)) (simp [go_sem,World.cell?_alloc_past, *]) (first|(go_at_call 152;refine (Compare_str x y _).mono ?_;rintro e w2 ⟨rfl,rfl⟩))
    all_goals (go_wp2_with fail;go_meet)
    all_goals exact ⟨by rw [←HX.out,←HY.out],below_by⟩
   case rest=>
    obtain ⟨rfl,hbx⟩:=hcut
    have HN:=hide (HQ.out.trans (rises_next cmpB hlt))
    by_cases hc:0≤cmpB l[k] l[k+1]
    ·have hr:Hid (risesBy cmpB l=false):=hide (by rw [HN.out];simp;omega)
     clear HN
     go_wp2_with fail
     go_ret
     exact ⟨by rw [hr.out];rfl,hbx⟩
    ·have hr:Hid (risesBy cmpB l=risesBy cmpB (l.drop (k+1))):=hide (by rw [HN.out];simp;omega)
     have hw2:IntKind.i64.wrap (i+1)=((k+1+1:Nat):Int):=by have H1:=HI.out;rw [IntWalk.i64_in _ (by omega)];omega
     clear HN
     go_wp2_with fail
     go_round
     case rel=>exact ⟨k+1,.inr (by omega),rfl,hr,hbx⟩
     case measure=>have H1:=HI.out;simp [intOf];omega
  ·have hr:Hid (risesBy cmpB l=true):=hide (by rw [HQ.out];exact rises_short _ (by omega))
   have hge:¬ (((k+1:Nat):Int)<l.length):=by omega
   go_wp2_with fail
   go_ret
   exact ⟨by rw [hr.out];rfl,hbr⟩
theorem byScore_ (a b:Sc) (w:World) :
  Calls Tryz.prog 150 #[.agg #[.string a.member,.int .i64 a.n],.agg #[.string b.member,.int .i64 b.n]] w fun e w'=>e = .returned (.int .i64 (cmpS a b))∧Below w.heap.size w w':=by
 unfold cmpS
 obtain ⟨am,an⟩:=a
 obtain ⟨bm,bn⟩:=b
 simp only
 have H1:=fun w=>Compare_int an bn w
 have H2:=fun w=>Compare_str am bm w
 generalize cmpI an bn=x at *
 generalize cmpB am bm=y at *
 have H3:=fun g w h0 h1=>Or_int2 g x y w h0 h1
 generalize (if x≠0 then x else y)=z at *
 have K1:=hide H1;have K2:=hide H2;have K3:=hide H3
 clear H1 H2 H3
 go_enter Tryz.func150,Tryz.ntmps150
 go_wp2_with fail
 go_region_held3 (fun w'=>w'.cell? ⟨w.heap.size,0,none⟩=some (.string am)∧w'.cell? ⟨w.heap.size,1,none⟩=some (.int .i64 an)∧w'.cell? ⟨w.heap.size+1,0,none⟩=some (.string bm)∧w'.cell? ⟨w.heap.size+1,1,none⟩=some (.int .i64 bn)) (simp [go_sem,World.cell?_alloc_past, *])
  (first|((go_at_call 179;with_reducible refine (K1.out _).mono ?_);rintro e w' ⟨rfl,rfl⟩)|((go_at_call 152;with_reducible refine (K2.out _).mono ?_);rintro e w' ⟨rfl,rfl⟩)|((go_at_call 178;with_reducible refine (K3.out _ _ ?_ ?_).mono ?_);(focus (simp [go_sem];done));(focus (simp [go_sem];done));rintro e w' ⟨rfl,rfl⟩))
 all_goals go_wp2_with fail
 all_goals go_ret
 all_goals exact ⟨rfl,below_by⟩
theorem rising_score (A:Option Addr) (n c:Nat) (l:List Sc) (w:World) (hln:l.length=n) (hl:l.length≤1048576) (h:Seg w 2 A (scoreRows l)) :
  Calls Tryz.prog 149 #[.slice A n c,.func (.func 150) #[] #[]] w fun e w'=>e = .returned (.bool (risesBy cmpS l))∧Below w.heap.size w w':=by
 subst hln
 go_enter Tryz.func149,Tryz.ntmps149
 go_wp2
 go_loopw [5] (fun s wr=>∃ k:Nat,(k=0∨k+1≤l.length)∧s = .int .i64 (k+1:Nat)∧Hid (risesBy cmpS l=risesBy cmpS (l.drop k))∧Below w.heap.size w wr) (fun s _=>l.length - (intOf s).toNat)
 case atStart=>exact ⟨0,.inl rfl,rfl,rfl,below_by⟩
 case round=>
  obtain ⟨k,hk,rfl,HQ,hbr⟩:=hrel
  by_cases hlt:k+1<l.length
  ·have hs:=h.below hbr
   obtain ⟨b,off,rfl,hb,p0,p1⟩:=hs.score (show k<l.length by omega)
   obtain ⟨b',off',e1,hb',q0,q1⟩:=hs.score hlt
   obtain ⟨rfl,rfl⟩:b=b'∧off=off':=by simpa using e1
   obtain ⟨i,hi⟩:∃ i:Int,i=((k+1:Nat):Int):=⟨_,rfl⟩
   obtain ⟨j,hj⟩:∃ j:Int,j=(k:Int):=⟨_,rfl⟩
   have hw:IntKind.i64.wrap (i - 1)=j:=by rw [IntWalk.i64_in _ (by omega)];omega
   have hlt1:i<l.length:=by omega
   have hlt2:j<l.length:=by omega
   have hlt3:0≤i:=by omega
   have hlt4:0≤j:=by omega
   have t1:i.toNat=k+1:=by omega
   have t2:j.toNat=k:=by omega
   rw [←hi]
   have HI:=hide hi
   clear hi hj
   go_upto_region 4 with fail
   go_cut [23] (fun s wx=>s = .bool (decide (0≤cmpS l[k] l[k+1]))∧Below w.heap.size w wx)
   case first=>
    obtain ⟨x,hx⟩:∃ x,x=l[k]:=⟨_,rfl⟩
    obtain ⟨y,hy⟩:∃ y,y=l[k+1]:=⟨_,rfl⟩
    rw [←hx] at p0 p1
    rw [←hy] at q0 q1
    have HX:=hide hx
    have HY:=hide hy
    clear hx hy HQ
    go_region_held3 (fun w'=>w'.cell? ⟨b,off+k*2,none⟩=some (.string x.member)∧w'.cell? ⟨b,off+k*2+1,none⟩=some (.int .i64 x.n)∧w'.cell? ⟨b,off+(k+1)*2,none⟩=some (.string y.member)∧w'.cell? ⟨b,off+(k+1)*2+1,none⟩=some (.int .i64 y.n)) (simp [go_sem,World.cell?_alloc_past, *]) (first|(go_at_call 150;refine (byScore_ x y _).mono ?_;rintro e w2 ⟨rfl,hb2⟩;have r0:=((bcell hb2).1 b (off+k*2) hb).trans p0;have r1:=((bcell hb2).1 b (off+k*2+1) hb).trans p1;have r2:=((bcell hb2).1 b (off+(k+1)*2) hb).trans q0;have r3:=((bcell hb2).1 b (off+(k+1)*2+1) hb).trans q1))
    all_goals (go_wp2_with fail;go_meet)
    all_goals exact ⟨by rw [←HX.out,←HY.out],below_by⟩
   case rest=>
    obtain ⟨rfl,hbx⟩:=hcut
    have HN:=hide (HQ.out.trans (rises_next cmpS hlt))
    by_cases hc:0≤cmpS l[k] l[k+1]
    ·have hr:Hid (risesBy cmpS l=false):=hide (by rw [HN.out];simp;omega)
     clear HN
     go_wp2_with fail
     go_ret
     exact ⟨by rw [hr.out];rfl,hbx⟩
    ·have hr:Hid (risesBy cmpS l=risesBy cmpS (l.drop (k+1))):=hide (by rw [HN.out];simp;omega)
     have hw2:IntKind.i64.wrap (i+1)=((k+1+1:Nat):Int):=by have H1:=HI.out;rw [IntWalk.i64_in _ (by omega)];omega
     clear HN
     go_wp2_with fail
     go_round
     case rel=>exact ⟨k+1,.inr (by omega),rfl,hr,hbx⟩
     case measure=>have H1:=HI.out;simp [intOf];omega
  ·have hr:Hid (risesBy cmpS l=true):=hide (by rw [HQ.out];exact rises_short _ (by omega))
   have hge:¬ (((k+1:Nat):Int)<l.length):=by omega
   go_wp2_with fail
   go_ret
   exact ⟨by rw [hr.out];rfl,hbr⟩
section
variable {α:Type}
def lowB (q:α→Bool) (l:List α):Nat:=(l.takeWhile q).length
theorem rises_tail {cmp:α→α→Int} {x:α} {l:List α} (h:risesBy cmp (x :: l)=true):risesBy cmp l=true:=by
 cases l with
 | nil=>rfl
 | cons y l=>simp only [risesBy,Bool.and_eq_true] at h;exact h.2
theorem rises_all {cmp:α→α→Int} (tr:∀ a b c:α,cmp a b<0→cmp b c<0→cmp a c<0):∀ {l:List α} {x:α},risesBy cmp (x :: l)=true→∀ y∈l,cmp x y<0
 | [],_,_,_,hy=>by cases hy
 | z :: l,x,h,y,hy=>by
  simp only [risesBy,Bool.and_eq_true,decide_eq_true_eq] at h
  rcases List.mem_cons.1 hy with rfl|hy
  ·exact h.1
  ·exact tr _ _ _ h.1 (rises_all tr h.2 y hy)
end
theorem rises_pair {α:Type} {cmp:α→α→Int} (tr:∀ a b c:α,cmp a b<0→cmp b c<0→cmp a c<0):∀ {l:List α},risesBy cmp l=true ↔ l.Pairwise (fun a b=>cmp a b<0)
 | []=>by simp [risesBy]
 | x :: l=>by
  rw [List.pairwise_cons]
  refine ⟨fun h=>⟨rises_all tr h,(rises_pair tr).1 (rises_tail h)⟩,fun h=>?_⟩
  cases l with
  | nil=>rfl
  | cons y l=>simp only [risesBy,Bool.and_eq_true,decide_eq_true_eq];exact ⟨h.1 y (by simp),(rises_pair tr).2 h.2⟩
def pairAt (f:ByteArray) (l:List Pr):Nat:=lowB (fun y=>decide (cmpB y.field f<0)) l
def textAt (f:ByteArray) (l:List ByteArray):Nat:=lowB (fun y=>decide (cmpB y f<0)) l
def scoreAt (x:Sc) (l:List Sc):Nat:=lowB (fun y=>decide (cmpS y x<0)) l
end Go.Proofs.YtgdcofbnbiclmaaGreatDoor

