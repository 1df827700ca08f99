import Derived.Test.YtgdcofbnbiclmaaGreatDoorQBase
namespace Go.Proofs.YtgdcofbnbiclmaaGreatDoor
set_option linter.all false
set_option maxHeartbeats 32000000
open Go.RowKit
def picked (n many:Int):Int:=(if n<0 then -(n+1) else n) % many
theorem picked_lo (n many:Int) (h:0<many):0≤picked n many:=Int.emod_nonneg _ (by omega)
theorem picked_hi (n many:Int) (h:0<many):picked n many<many:=Int.emod_lt_of_pos _ h
theorem picked_neg {n many:Int} (h:n<0) : -(n+1).tmod many=picked n many:=by
 rw [picked,if_pos h,←Int.neg_tmod,Int.tmod_eq_emod_of_nonneg (by omega)]
theorem picked_pos {n many:Int} (h:¬ n<0):n % many=picked n many:=by
 rw [picked,if_neg h]
theorem picked_any (n many:Int) (w:World) (h1 : -9223372036854775808≤n) (h2:n≤9223372036854775807) (h3:0<many) (h4:many≤9223372036854775807) :
  Calls Tryz.prog 42 #[.int .i64 n,.int .i64 many] w fun e w'=>e = .returned (.int .i64 (picked n many))∧w=w':=by
 by_cases h:n<0
 ·have e:=picked_neg (many:=many) h
  have E:=hide e;clear e
  go_enter Tryz.func42,Tryz.ntmps42
  go_wp2
  go_ret
  exact ⟨by rw [←E.out];simp,rfl⟩
 ·have e:=picked_pos (many:=many) h
  have E:=hide e;clear e
  go_enter Tryz.func42,Tryz.ntmps42
  go_wp2
  go_ret
  exact ⟨by rw [←E.out];simp,rfl⟩

def checkReply (code:Int) (text:ByteArray) (n:Int) (l:List ByteArray):Int:=
 if code<0∨13<code then 3 else if 20<text.size∨20<l.length then 1 else if l.any (fun s=>decide (20<s.size)) then 1
 else if n < -1099511627776∨1099511627776<n then 2 else 0

theorem long_any (s:ByteArray) (w:World):Calls Tryz.prog 114 #[.string s] w fun e w'=>e = .returned (.bool (decide (20<s.size)))∧w=w':=by
 go_enter Tryz.func114,Tryz.ntmps114
 go_wp2_with fail
 go_ret
 exact ⟨by simp;omega,rfl⟩
theorem CheckReply_any (code:Int) (text:ByteArray) (n:Int) (A:Option Addr) (ln c:Nat) (l:List ByteArray) (w:World) (hs:text.size≤maxLen) (hln:l.length=ln) (hl:l.length≤maxLen) (h:Seg w 1 A (strRows l)) :
  Calls Tryz.prog 76 #[.agg #[.int .i64 code,.string text,.int .i64 n,.slice A ln c]] w fun e w'=>e = .returned (.int .i64 (checkReply code text n l))∧Below w.heap.size w w':=by
 subst hln
 unfold maxLen at hs hl
 have hseg:∀ o,Seg (w.alloc o) 1 A (strRows l):=fun o=>h.alloc o
 have HS:=hide hseg;clear hseg h
 go_enter Tryz.func76,Tryz.ntmps76
 go_wp2_with (go_at_call 113;refine (ContainsFunc_str _ (run_enter Tryz.func114 (by kernel_rfl) (by kernel_rfl)) _ long_any A _ c l _ rfl hl (HS.out _)).mono ?_;rintro e w' ⟨rfl,rfl⟩)
 all_goals go_ret
 all_goals refine ⟨?_,below_by⟩
 all_goals refine ret_int ?_
 all_goals (unfold checkReply;(repeat' split) <;> first|rfl|omega|contradiction|(exfalso;simp_all;done)|(exfalso;simp_all;omega))
def fieldOk (s:ByteArray):Bool:=decide (1≤s.size) && decide (s.size≤12)
def textOk (s:ByteArray):Bool:=decide (s.size≤20)
def countOk (n:Int):Bool:=decide (-1099511627776≤n) && decide (n≤1099511627776)
def numberOk (n:Int):Bool:=decide (1≤n) && decide (n≤1048576)
theorem fieldOk_any (s:ByteArray) (w:World):Calls Tryz.prog 115 #[.string s] w fun e w'=>e = .returned (.bool (fieldOk s))∧w=w':=by
 go_enter Tryz.func115,Tryz.ntmps115
 go_wp2_with fail
 all_goals go_ret
 all_goals refine ⟨ret_bool ?_,rfl⟩
 all_goals (rw [Bool.eq_iff_iff];simp [fieldOk];omega)
theorem textOk_any (s:ByteArray) (w:World):Calls Tryz.prog 116 #[.string s] w fun e w'=>e = .returned (.bool (textOk s))∧w=w':=by
 go_enter Tryz.func116,Tryz.ntmps116
 go_wp2_with fail
 all_goals go_ret
 all_goals exact ⟨ret_bool (by simp [textOk];try omega),rfl⟩
theorem countOk_any (n:Int) (w:World):Calls Tryz.prog 117 #[.int .i64 n] w fun e w'=>e = .returned (.bool (countOk n))∧w=w':=by
 go_enter Tryz.func117,Tryz.ntmps117
 go_wp2_with fail
 all_goals go_ret
 all_goals exact ⟨ret_bool (by simp [countOk];try omega),rfl⟩
theorem numberOk_any (n:Int) (w:World):Calls Tryz.prog 77 #[.int .i64 n] w fun e w'=>e = .returned (.bool (numberOk n))∧w=w':=by
 go_enter Tryz.func77,Tryz.ntmps77
 go_wp2_with fail
 all_goals go_ret
 all_goals exact ⟨ret_bool (by simp [numberOk];try omega),rfl⟩

def cmdText (k:Int):Bool:=[1,4,7,8,11,12,13,14,15,16].contains k
def cmdN (k:Int):Bool:=[3,14,20].contains k
def cmdField (k:Int):Bool:=[4,5,6].contains k
def cmdKey (k:Int):Bool := !(k == 22)
def bare (k:Int) (key field text:ByteArray) (n:Int):Bool:=
 (cmdKey k || key.toList == []) && (cmdField k || field.toList == []) && (cmdText k || text.toList == []) && (cmdN k || n == 0)
def checkCommand (k:Int) (key field text:ByteArray) (n:Int):Int:=
 if k<1∨22<k then 3 else if bare k key field text n=false then 8
 else if (cmdKey k=true∧fieldOk key=false)∨(cmdField k=true∧fieldOk field=false)∨textOk text=false then 1
 else if countOk n=false then 2 else 0

theorem cc1 (key field text:ByteArray) (n:Int) (w:World) :
  Calls Tryz.prog 78 #[.agg #[.int .i64 1,.string key,.string field,.string text,.int .i64 n]] w fun e w'=>e = .returned (.int .i64 (checkCommand 1 key field text n))∧Below w.heap.size w w':=by
 go_enter Tryz.func78,Tryz.ntmps78
 go_wp2_with (first|(go_at_call 115;refine (fieldOk_any _ _).mono ?_;rintro e w' ⟨rfl,rfl⟩)|(go_at_call 116;refine (textOk_any _ _).mono ?_;rintro e w' ⟨rfl,rfl⟩)|(go_at_call 117;refine (countOk_any _ _).mono ?_;rintro e w' ⟨rfl,rfl⟩))
 all_goals go_ret
 all_goals refine ⟨ret_int ?_,below_by⟩
 all_goals simp_all [checkCommand,bare,cmdText,cmdN,cmdField,cmdKey]
theorem cc2 (key field text:ByteArray) (n:Int) (w:World) :
  Calls Tryz.prog 78 #[.agg #[.int .i64 2,.string key,.string field,.string text,.int .i64 n]] w fun e w'=>e = .returned (.int .i64 (checkCommand 2 key field text n))∧Below w.heap.size w w':=by
 go_enter Tryz.func78,Tryz.ntmps78
 go_wp2_with (first|(go_at_call 115;refine (fieldOk_any _ _).mono ?_;rintro e w' ⟨rfl,rfl⟩)|(go_at_call 116;refine (textOk_any _ _).mono ?_;rintro e w' ⟨rfl,rfl⟩)|(go_at_call 117;refine (countOk_any _ _).mono ?_;rintro e w' ⟨rfl,rfl⟩))
 all_goals go_ret
 all_goals refine ⟨ret_int ?_,below_by⟩
 all_goals simp_all [checkCommand,bare,cmdText,cmdN,cmdField,cmdKey]
theorem cc3 (key field text:ByteArray) (n:Int) (w:World) :
  Calls Tryz.prog 78 #[.agg #[.int .i64 3,.string key,.string field,.string text,.int .i64 n]] w fun e w'=>e = .returned (.int .i64 (checkCommand 3 key field text n))∧Below w.heap.size w w':=by
 go_enter Tryz.func78,Tryz.ntmps78
 go_wp2_with (first|(go_at_call 115;refine (fieldOk_any _ _).mono ?_;rintro e w' ⟨rfl,rfl⟩)|(go_at_call 116;refine (textOk_any _ _).mono ?_;rintro e w' ⟨rfl,rfl⟩)|(go_at_call 117;refine (countOk_any _ _).mono ?_;rintro e w' ⟨rfl,rfl⟩))
 all_goals go_ret
 all_goals refine ⟨ret_int ?_,below_by⟩
 all_goals simp_all [checkCommand,bare,cmdText,cmdN,cmdField,cmdKey]
theorem cc5 (key field text:ByteArray) (n:Int) (w:World) :
  Calls Tryz.prog 78 #[.agg #[.int .i64 5,.string key,.string field,.string text,.int .i64 n]] w fun e w'=>e = .returned (.int .i64 (checkCommand 5 key field text n))∧Below w.heap.size w w':=by
 go_enter Tryz.func78,Tryz.ntmps78
 go_wp2_with (first|(go_at_call 115;refine (fieldOk_any _ _).mono ?_;rintro e w' ⟨rfl,rfl⟩)|(go_at_call 116;refine (textOk_any _ _).mono ?_;rintro e w' ⟨rfl,rfl⟩)|(go_at_call 117;refine (countOk_any _ _).mono ?_;rintro e w' ⟨rfl,rfl⟩))
 all_goals go_ret
 all_goals refine ⟨ret_int ?_,below_by⟩
 all_goals simp_all [checkCommand,bare,cmdText,cmdN,cmdField,cmdKey]
theorem cc6 (key field text:ByteArray) (n:Int) (w:World) :
  Calls Tryz.prog 78 #[.agg #[.int .i64 6,.string key,.string field,.string text,.int .i64 n]] w fun e w'=>e = .returned (.int .i64 (checkCommand 6 key field text n))∧Below w.heap.size w w':=by
 go_enter Tryz.func78,Tryz.ntmps78
 go_wp2_with (first|(go_at_call 115;refine (fieldOk_any _ _).mono ?_;rintro e w' ⟨rfl,rfl⟩)|(go_at_call 116;refine (textOk_any _ _).mono ?_;rintro e w' ⟨rfl,rfl⟩)|(go_at_call 117;refine (countOk_any _ _).mono ?_;rintro e w' ⟨rfl,rfl⟩))
 all_goals go_ret
 all_goals refine ⟨ret_int ?_,below_by⟩
 all_goals simp_all [checkCommand,bare,cmdText,cmdN,cmdField,cmdKey]
theorem cc7 (key field text:ByteArray) (n:Int) (w:World) :
  Calls Tryz.prog 78 #[.agg #[.int .i64 7,.string key,.string field,.string text,.int .i64 n]] w fun e w'=>e = .returned (.int .i64 (checkCommand 7 key field text n))∧Below w.heap.size w w':=by
 go_enter Tryz.func78,Tryz.ntmps78
 go_wp2_with (first|(go_at_call 115;refine (fieldOk_any _ _).mono ?_;rintro e w' ⟨rfl,rfl⟩)|(go_at_call 116;refine (textOk_any _ _).mono ?_;rintro e w' ⟨rfl,rfl⟩)|(go_at_call 117;refine (countOk_any _ _).mono ?_;rintro e w' ⟨rfl,rfl⟩))
 all_goals go_ret
 all_goals refine ⟨ret_int ?_,below_by⟩
 all_goals simp_all [checkCommand,bare,cmdText,cmdN,cmdField,cmdKey]
theorem cc8 (key field text:ByteArray) (n:Int) (w:World) :
  Calls Tryz.prog 78 #[.agg #[.int .i64 8,.string key,.string field,.string text,.int .i64 n]] w fun e w'=>e = .returned (.int .i64 (checkCommand 8 key field text n))∧Below w.heap.size w w':=by
 go_enter Tryz.func78,Tryz.ntmps78
 go_wp2_with (first|(go_at_call 115;refine (fieldOk_any _ _).mono ?_;rintro e w' ⟨rfl,rfl⟩)|(go_at_call 116;refine (textOk_any _ _).mono ?_;rintro e w' ⟨rfl,rfl⟩)|(go_at_call 117;refine (countOk_any _ _).mono ?_;rintro e w' ⟨rfl,rfl⟩))
 all_goals go_ret
 all_goals refine ⟨ret_int ?_,below_by⟩
 all_goals simp_all [checkCommand,bare,cmdText,cmdN,cmdField,cmdKey]
theorem cc9 (key field text:ByteArray) (n:Int) (w:World) :
  Calls Tryz.prog 78 #[.agg #[.int .i64 9,.string key,.string field,.string text,.int .i64 n]] w fun e w'=>e = .returned (.int .i64 (checkCommand 9 key field text n))∧Below w.heap.size w w':=by
 go_enter Tryz.func78,Tryz.ntmps78
 go_wp2_with (first|(go_at_call 115;refine (fieldOk_any _ _).mono ?_;rintro e w' ⟨rfl,rfl⟩)|(go_at_call 116;refine (textOk_any _ _).mono ?_;rintro e w' ⟨rfl,rfl⟩)|(go_at_call 117;refine (countOk_any _ _).mono ?_;rintro e w' ⟨rfl,rfl⟩))
 all_goals go_ret
 all_goals refine ⟨ret_int ?_,below_by⟩
 all_goals simp_all [checkCommand,bare,cmdText,cmdN,cmdField,cmdKey]
theorem cc10 (key field text:ByteArray) (n:Int) (w:World) :
  Calls Tryz.prog 78 #[.agg #[.int .i64 10,.string key,.string field,.string text,.int .i64 n]] w fun e w'=>e = .returned (.int .i64 (checkCommand 10 key field text n))∧Below w.heap.size w w':=by
 go_enter Tryz.func78,Tryz.ntmps78
 go_wp2_with (first|(go_at_call 115;refine (fieldOk_any _ _).mono ?_;rintro e w' ⟨rfl,rfl⟩)|(go_at_call 116;refine (textOk_any _ _).mono ?_;rintro e w' ⟨rfl,rfl⟩)|(go_at_call 117;refine (countOk_any _ _).mono ?_;rintro e w' ⟨rfl,rfl⟩))
 all_goals go_ret
 all_goals refine ⟨ret_int ?_,below_by⟩
 all_goals simp_all [checkCommand,bare,cmdText,cmdN,cmdField,cmdKey]
theorem cc11 (key field text:ByteArray) (n:Int) (w:World) :
  Calls Tryz.prog 78 #[.agg #[.int .i64 11,.string key,.string field,.string text,.int .i64 n]] w fun e w'=>e = .returned (.int .i64 (checkCommand 11 key field text n))∧Below w.heap.size w w':=by
 go_enter Tryz.func78,Tryz.ntmps78
 go_wp2_with (first|(go_at_call 115;refine (fieldOk_any _ _).mono ?_;rintro e w' ⟨rfl,rfl⟩)|(go_at_call 116;refine (textOk_any _ _).mono ?_;rintro e w' ⟨rfl,rfl⟩)|(go_at_call 117;refine (countOk_any _ _).mono ?_;rintro e w' ⟨rfl,rfl⟩))
 all_goals go_ret
 all_goals refine ⟨ret_int ?_,below_by⟩
 all_goals simp_all [checkCommand,bare,cmdText,cmdN,cmdField,cmdKey]
theorem cc12 (key field text:ByteArray) (n:Int) (w:World) :
  Calls Tryz.prog 78 #[.agg #[.int .i64 12,.string key,.string field,.string text,.int .i64 n]] w fun e w'=>e = .returned (.int .i64 (checkCommand 12 key field text n))∧Below w.heap.size w w':=by
 go_enter Tryz.func78,Tryz.ntmps78
 go_wp2_with (first|(go_at_call 115;refine (fieldOk_any _ _).mono ?_;rintro e w' ⟨rfl,rfl⟩)|(go_at_call 116;refine (textOk_any _ _).mono ?_;rintro e w' ⟨rfl,rfl⟩)|(go_at_call 117;refine (countOk_any _ _).mono ?_;rintro e w' ⟨rfl,rfl⟩))
 all_goals go_ret
 all_goals refine ⟨ret_int ?_,below_by⟩
 all_goals simp_all [checkCommand,bare,cmdText,cmdN,cmdField,cmdKey]
theorem cc13 (key field text:ByteArray) (n:Int) (w:World) :
  Calls Tryz.prog 78 #[.agg #[.int .i64 13,.string key,.string field,.string text,.int .i64 n]] w fun e w'=>e = .returned (.int .i64 (checkCommand 13 key field text n))∧Below w.heap.size w w':=by
 go_enter Tryz.func78,Tryz.ntmps78
 go_wp2_with (first|(go_at_call 115;refine (fieldOk_any _ _).mono ?_;rintro e w' ⟨rfl,rfl⟩)|(go_at_call 116;refine (textOk_any _ _).mono ?_;rintro e w' ⟨rfl,rfl⟩)|(go_at_call 117;refine (countOk_any _ _).mono ?_;rintro e w' ⟨rfl,rfl⟩))
 all_goals go_ret
 all_goals refine ⟨ret_int ?_,below_by⟩
 all_goals simp_all [checkCommand,bare,cmdText,cmdN,cmdField,cmdKey]
theorem cc15 (key field text:ByteArray) (n:Int) (w:World) :
  Calls Tryz.prog 78 #[.agg #[.int .i64 15,.string key,.string field,.string text,.int .i64 n]] w fun e w'=>e = .returned (.int .i64 (checkCommand 15 key field text n))∧Below w.heap.size w w':=by
 go_enter Tryz.func78,Tryz.ntmps78
 go_wp2_with (first|(go_at_call 115;refine (fieldOk_any _ _).mono ?_;rintro e w' ⟨rfl,rfl⟩)|(go_at_call 116;refine (textOk_any _ _).mono ?_;rintro e w' ⟨rfl,rfl⟩)|(go_at_call 117;refine (countOk_any _ _).mono ?_;rintro e w' ⟨rfl,rfl⟩))
 all_goals go_ret
 all_goals refine ⟨ret_int ?_,below_by⟩
 all_goals simp_all [checkCommand,bare,cmdText,cmdN,cmdField,cmdKey]
theorem cc16 (key field text:ByteArray) (n:Int) (w:World) :
  Calls Tryz.prog 78 #[.agg #[.int .i64 16,.string key,.string field,.string text,.int .i64 n]] w fun e w'=>e = .returned (.int .i64 (checkCommand 16 key field text n))∧Below w.heap.size w w':=by
 go_enter Tryz.func78,Tryz.ntmps78
 go_wp2_with (first|(go_at_call 115;refine (fieldOk_any _ _).mono ?_;rintro e w' ⟨rfl,rfl⟩)|(go_at_call 116;refine (textOk_any _ _).mono ?_;rintro e w' ⟨rfl,rfl⟩)|(go_at_call 117;refine (countOk_any _ _).mono ?_;rintro e w' ⟨rfl,rfl⟩))
 all_goals go_ret
 all_goals refine ⟨ret_int ?_,below_by⟩
 all_goals simp_all [checkCommand,bare,cmdText,cmdN,cmdField,cmdKey]
theorem cc17 (key field text:ByteArray) (n:Int) (w:World) :
  Calls Tryz.prog 78 #[.agg #[.int .i64 17,.string key,.string field,.string text,.int .i64 n]] w fun e w'=>e = .returned (.int .i64 (checkCommand 17 key field text n))∧Below w.heap.size w w':=by
 go_enter Tryz.func78,Tryz.ntmps78
 go_wp2_with (first|(go_at_call 115;refine (fieldOk_any _ _).mono ?_;rintro e w' ⟨rfl,rfl⟩)|(go_at_call 116;refine (textOk_any _ _).mono ?_;rintro e w' ⟨rfl,rfl⟩)|(go_at_call 117;refine (countOk_any _ _).mono ?_;rintro e w' ⟨rfl,rfl⟩))
 all_goals go_ret
 all_goals refine ⟨ret_int ?_,below_by⟩
 all_goals simp_all [checkCommand,bare,cmdText,cmdN,cmdField,cmdKey]
theorem cc18 (key field text:ByteArray) (n:Int) (w:World) :
  Calls Tryz.prog 78 #[.agg #[.int .i64 18,.string key,.string field,.string text,.int .i64 n]] w fun e w'=>e = .returned (.int .i64 (checkCommand 18 key field text n))∧Below w.heap.size w w':=by
 go_enter Tryz.func78,Tryz.ntmps78
 go_wp2_with (first|(go_at_call 115;refine (fieldOk_any _ _).mono ?_;rintro e w' ⟨rfl,rfl⟩)|(go_at_call 116;refine (textOk_any _ _).mono ?_;rintro e w' ⟨rfl,rfl⟩)|(go_at_call 117;refine (countOk_any _ _).mono ?_;rintro e w' ⟨rfl,rfl⟩))
 all_goals go_ret
 all_goals refine ⟨ret_int ?_,below_by⟩
 all_goals simp_all [checkCommand,bare,cmdText,cmdN,cmdField,cmdKey]
theorem cc19 (key field text:ByteArray) (n:Int) (w:World) :
  Calls Tryz.prog 78 #[.agg #[.int .i64 19,.string key,.string field,.string text,.int .i64 n]] w fun e w'=>e = .returned (.int .i64 (checkCommand 19 key field text n))∧Below w.heap.size w w':=by
 go_enter Tryz.func78,Tryz.ntmps78
 go_wp2_with (first|(go_at_call 115;refine (fieldOk_any _ _).mono ?_;rintro e w' ⟨rfl,rfl⟩)|(go_at_call 116;refine (textOk_any _ _).mono ?_;rintro e w' ⟨rfl,rfl⟩)|(go_at_call 117;refine (countOk_any _ _).mono ?_;rintro e w' ⟨rfl,rfl⟩))
 all_goals go_ret
 all_goals refine ⟨ret_int ?_,below_by⟩
 all_goals simp_all [checkCommand,bare,cmdText,cmdN,cmdField,cmdKey]
theorem cc20 (key field text:ByteArray) (n:Int) (w:World) :
  Calls Tryz.prog 78 #[.agg #[.int .i64 20,.string key,.string field,.string text,.int .i64 n]] w fun e w'=>e = .returned (.int .i64 (checkCommand 20 key field text n))∧Below w.heap.size w w':=by
 go_enter Tryz.func78,Tryz.ntmps78
 go_wp2_with (first|(go_at_call 115;refine (fieldOk_any _ _).mono ?_;rintro e w' ⟨rfl,rfl⟩)|(go_at_call 116;refine (textOk_any _ _).mono ?_;rintro e w' ⟨rfl,rfl⟩)|(go_at_call 117;refine (countOk_any _ _).mono ?_;rintro e w' ⟨rfl,rfl⟩))
 all_goals go_ret
 all_goals refine ⟨ret_int ?_,below_by⟩
 all_goals simp_all [checkCommand,bare,cmdText,cmdN,cmdField,cmdKey]
theorem cc21 (key field text:ByteArray) (n:Int) (w:World) :
  Calls Tryz.prog 78 #[.agg #[.int .i64 21,.string key,.string field,.string text,.int .i64 n]] w fun e w'=>e = .returned (.int .i64 (checkCommand 21 key field text n))∧Below w.heap.size w w':=by
 go_enter Tryz.func78,Tryz.ntmps78
 go_wp2_with (first|(go_at_call 115;refine (fieldOk_any _ _).mono ?_;rintro e w' ⟨rfl,rfl⟩)|(go_at_call 116;refine (textOk_any _ _).mono ?_;rintro e w' ⟨rfl,rfl⟩)|(go_at_call 117;refine (countOk_any _ _).mono ?_;rintro e w' ⟨rfl,rfl⟩))
 all_goals go_ret
 all_goals refine ⟨ret_int ?_,below_by⟩
 all_goals simp_all [checkCommand,bare,cmdText,cmdN,cmdField,cmdKey]
theorem cc22 (key field text:ByteArray) (n:Int) (w:World) :
  Calls Tryz.prog 78 #[.agg #[.int .i64 22,.string key,.string field,.string text,.int .i64 n]] w fun e w'=>e = .returned (.int .i64 (checkCommand 22 key field text n))∧Below w.heap.size w w':=by
 go_enter Tryz.func78,Tryz.ntmps78
 go_wp2_with (first|(go_at_call 115;refine (fieldOk_any _ _).mono ?_;rintro e w' ⟨rfl,rfl⟩)|(go_at_call 116;refine (textOk_any _ _).mono ?_;rintro e w' ⟨rfl,rfl⟩)|(go_at_call 117;refine (countOk_any _ _).mono ?_;rintro e w' ⟨rfl,rfl⟩))
 all_goals go_ret
 all_goals refine ⟨ret_int ?_,below_by⟩
 all_goals simp_all [checkCommand,bare,cmdText,cmdN,cmdField,cmdKey]
theorem cc4 (key field text:ByteArray) (n:Int) (w:World) :
  Calls Tryz.prog 78 #[.agg #[.int .i64 4,.string key,.string field,.string text,.int .i64 n]] w fun e w'=>e = .returned (.int .i64 (checkCommand 4 key field text n))∧Below w.heap.size w w':=by
 go_enter Tryz.func78,Tryz.ntmps78
 go_wp2_with fail
 go_region
 all_goals go_wp2_with (first|(go_at_call 115;refine (fieldOk_any _ _).mono ?_;rintro e w' ⟨rfl,rfl⟩)|(go_at_call 116;refine (textOk_any _ _).mono ?_;rintro e w' ⟨rfl,rfl⟩)|(go_at_call 117;refine (countOk_any _ _).mono ?_;rintro e w' ⟨rfl,rfl⟩))
 all_goals go_ret
 all_goals refine ⟨ret_int ?_,below_by⟩
 all_goals simp_all [checkCommand,bare,cmdText,cmdN,cmdField,cmdKey]
theorem cc14 (key field text:ByteArray) (n:Int) (w:World) :
  Calls Tryz.prog 78 #[.agg #[.int .i64 14,.string key,.string field,.string text,.int .i64 n]] w fun e w'=>e = .returned (.int .i64 (checkCommand 14 key field text n))∧Below w.heap.size w w':=by
 go_enter Tryz.func78,Tryz.ntmps78
 go_wp2_with fail
 go_region
 all_goals go_wp2_with (first|(go_at_call 115;refine (fieldOk_any _ _).mono ?_;rintro e w' ⟨rfl,rfl⟩)|(go_at_call 116;refine (textOk_any _ _).mono ?_;rintro e w' ⟨rfl,rfl⟩)|(go_at_call 117;refine (countOk_any _ _).mono ?_;rintro e w' ⟨rfl,rfl⟩))
 all_goals go_ret
 all_goals refine ⟨ret_int ?_,below_by⟩
 all_goals simp_all [checkCommand,bare,cmdText,cmdN,cmdField,cmdKey]
theorem cc_bad (k:Int) (hk:k<1∨22<k) (key field text:ByteArray) (n:Int) (w:World) :
  Calls Tryz.prog 78 #[.agg #[.int .i64 k,.string key,.string field,.string text,.int .i64 n]] w fun e w'=>e = .returned (.int .i64 (checkCommand k key field text n))∧Below w.heap.size w w':=by
 go_enter Tryz.func78,Tryz.ntmps78
 go_wp2_with fail
 all_goals go_ret
 all_goals refine ⟨ret_int ?_,below_by⟩
 all_goals (unfold checkCommand;rw [if_pos hk])
theorem CheckCommand_any (k:Int) (key field text:ByteArray) (n:Int) (w:World) :
  Calls Tryz.prog 78 #[.agg #[.int .i64 k,.string key,.string field,.string text,.int .i64 n]] w fun e w'=>e = .returned (.int .i64 (checkCommand k key field text n))∧Below w.heap.size w w':=by
 by_cases hk:k<1∨22<k
 ·exact cc_bad k hk key field text n w
 have h:k=1∨k=2∨k=3∨k=4∨k=5∨k=6∨k=7∨k=8∨k=9∨k=10∨k=11∨k=12∨k=13∨k=14∨k=15∨k=16∨k=17∨k=18∨k=19∨k=20∨k=21∨k=22:=by omega
 rcases h with rfl|rfl|rfl|rfl|rfl|rfl|rfl|rfl|rfl|rfl|rfl|rfl|rfl|rfl|rfl|rfl|rfl|rfl|rfl|rfl|rfl|rfl
 ·exact cc1 key field text n w
 ·exact cc2 key field text n w
 ·exact cc3 key field text n w
 ·exact cc4 key field text n w
 ·exact cc5 key field text n w
 ·exact cc6 key field text n w
 ·exact cc7 key field text n w
 ·exact cc8 key field text n w
 ·exact cc9 key field text n w
 ·exact cc10 key field text n w
 ·exact cc11 key field text n w
 ·exact cc12 key field text n w
 ·exact cc13 key field text n w
 ·exact cc14 key field text n w
 ·exact cc15 key field text n w
 ·exact cc16 key field text n w
 ·exact cc17 key field text n w
 ·exact cc18 key field text n w
 ·exact cc19 key field text n w
 ·exact cc20 key field text n w
 ·exact cc21 key field text n w
 ·exact cc22 key field text n w
end Go.Proofs.YtgdcofbnbiclmaaGreatDoor

