/- Parts of a proof: MS1. -/
import Derived.Test.YtjekapjbigfkbaaGreatDoorQ09
import Derived.Test.YtjekapjbigfkbaaGreatDoorQ01
import Derived.Laws.EntriesVeiled
import Derived.Deep.WholeRow
import Derived.Deep.MidRow
import Derived.Laws.ResultCell
namespace Go.Proofs.YtjekapjbigfkbaaGreatDoor
open Go Go.RowKit
set_option maxRecDepth 100000
abbrev fv (g:FuncId):Value:=.func (.func g) #[] #[]
def ring0:Array Value:=#[.string ⟨#[]⟩,.string ⟨#[]⟩,.bool false,.nilFunc,.nilFunc,.nilFunc,.nilFunc,.nilFunc]
def ring1:Array Value:=#[.string ⟨#[105,110,102]⟩,.string ⟨#[48]⟩,.bool true,fv 155,fv 34,fv 156,fv 91,fv 91]
def ring2:Array Value:=#[.string ⟨#[48]⟩,.string ⟨#[49]⟩,.bool false,fv 157,fv 158,fv 159,fv 160,fv 161]
def ring3:Array Value:=#[.string ⟨#[48]⟩,.string ⟨#[49]⟩,.bool false,fv 155,fv 158,fv 162,fv 160,fv 161]
def ringsV:Array Value:=#[.string ⟨#[]⟩,.string ⟨#[]⟩,.bool false,.nilFunc,.nilFunc,.nilFunc,.nilFunc,.nilFunc,
 .string ⟨#[105,110,102]⟩,.string ⟨#[48]⟩,.bool true,fv 155,fv 34,fv 156,fv 91,fv 91,
 .string ⟨#[48]⟩,.string ⟨#[49]⟩,.bool false,fv 157,fv 158,fv 159,fv 160,fv 161,
 .string ⟨#[48]⟩,.string ⟨#[49]⟩,.bool false,fv 155,fv 158,fv 162,fv 160,fv 161]
theorem wpList_store_new {P:Program} {ops:Array Oper} {rest:List Oper} {op:Oper} {a:Act} {w:World} {Q:Exit→Act→World→Prop} (hgd:op.guard=none) (t:TypeId) (x y:Operand) (ho:op.op=.store t x y)
  (c c':Array Value) (hx:a.eval x=.pointer (some ⟨w.heap.size,0,none⟩)) (hy:a.eval y=.agg c') (hi:(P.info? t).map (·.size)=some c'.size) (hs:c.size=c'.size) (h1:c'.all (·.oneCell')=true)
  (h:wpList P ops Q rest (a.put op.dst undef) (w.alloc (.cells c' t))):wpList P ops Q (op::rest) a (w.alloc (.cells c t)) :=
 wpList_plain hgd fun _ hK=>by
  unfold Oper.wp execOp
  simp only [ho,hx,hy,Instr.storeAt,Instr.sureAddr,Sem.run_bind,Sem.run_pure,Result.andThen_ok,run_storeVar_new w t c c' hi hs h1]
  exact hK _ _ h
theorem results_cell {fn:Func} {p:Tmp} {ty:TypeId} (h:fn.results=#[.cell p ty]) (tmps:Array Value) (P:Program) (w:World) :
  (results fn tmps).run P w=((asAddr (tmps.getD p undef)).run P w).andThen fun a w₁=>(loadVar ty a).run P w₁:=by
 simp only [results,h]
 simp [Sem.run_bind,Result.andThen]
set_option maxHeartbeats 4000000 in
theorem rings_any (w:World):Calls Tryz.prog 120 #[] w fun e w'=>e=.returned (.agg ringsV)∧Below w.heap.size w w':=by
 have hi:(Tryz.prog.info? 156).map (·.size)=some ringsV.size:=by kernel_rfl
 have h1:ringsV.all (·.oneCell')=true:=by decide +kernel
 have HI:=Lib.hid hi;clear hi
 have H1:=Lib.hid h1;clear h1
 go_enter Tryz.func120,Tryz.ntmps120
 go_wp2_with (refine wpList_store_new rfl 156 (.tmp 0) (.tmp 4) rfl _ ringsV rfl rfl HI.out rfl H1.out ?_)
 refine bodyPost_ret (v:=.agg ringsV) ?_ rfl ⟨rfl,(Below.refl _ _).alloc (Nat.le_refl _) _⟩
 rw [results_cell rfl]
 exact run_loadVar_new w 156 ringsV 4 116 Tryz.underlying156 HI.out
theorem there8 {w wk:World} {c:Array Value} {t:TypeId} (hc:c.size=8) (h:Below (w.alloc (.cells c t)).heap.size (w.alloc (.cells c t)) wk):wk.there w.heap.size 0 8:=by
 intro j hj
 have hlt:w.heap.size < (w.alloc (.cells c t)).heap.size:=by simp
 have e:=h.cell (p:=⟨w.heap.size,0+j,none⟩) hlt
 have f:=h.frozen (p:=⟨w.heap.size,0+j,none⟩) hlt
 rw [e,f]
 constructor
 ·rw [cell_of_row _ _ (0+j) c t (0,0) (heap_alloc_last w _)]
  simp [hc,hj]
 ·exact World.frozen?_alloc_new w c t _
def OfEnd (r:Array Value) (b:Bool) (w:World) (e:Ending) (w':World):Prop:=e=.returned (.tuple #[.agg r,.bool b])∧Below w.heap.size w w'
theorem results_cell8 {fn:Func} {p u:Tmp} (h:fn.results=#[.cell p 116,.tmp u]) (tmps:Array Value) (W:World) (b:Nat) (r:List Value) (v:Value) (hp:tmps.getD p undef=.pointer (some ⟨b,0,none⟩)) (hu:tmps.getD u undef=v)
  (hr:r.length=8) (hc:W.rangeAt b 0 r):(results fn tmps).run Tryz.prog W=.ok (.tuple #[.agg r.toArray,v]) W:=by
 rw [results_cell_tmp h,hp,hu]
 have hi:(Tryz.prog.info? 116).map (·.size)=some r.length:=by rw [hr];kernel_rfl
 have:=run_loadVar_mid (P:=Tryz.prog) W b 0 116 r _ hc Tryz.underlying116 rfl hi
 show ((loadVar 116 ⟨b,0,none⟩).run Tryz.prog W).andThen _=_
 rw [this];rfl
theorem range_new (w:World) (c:Array Value) (t:TypeId):(w.alloc (.cells c t)).rangeAt w.heap.size 0 c.toList:=by
 intro j v hv
 rw [cell_of_row _ _ (0+j) c t (0,0) (heap_alloc_last w _)]
 rw [Nat.zero_add];rw [Array.getElem?_toList] at hv;exact hv
set_option maxHeartbeats 4000000 in
theorem of_no (k:Int) (w:World) (hk:k < 1∨3 < k):Calls Tryz.prog 73 #[.int .i64 k] w (OfEnd ring0 false w):=by
 have hi:(Tryz.prog.info? 116).map (·.size)=some ring0.size:=by kernel_rfl
 have h1:ring0.all (·.oneCell')=true:=by decide +kernel
 have HI:=Lib.hid hi;clear hi
 have H1:=Lib.hid h1;clear h1
 rcases hk with hk | hk
 ·go_enter Tryz.func73,Tryz.ntmps73
  go_wp2_with (refine wpList_store_new rfl 116 (.tmp 2) (.tmp 10) rfl _ ring0 rfl rfl HI.out rfl H1.out ?_)
  exact bodyPost_ret (results_cell8 rfl _ _ w.heap.size ring0.toList (.bool false) rfl rfl rfl (range_new w ring0 _)) rfl ⟨rfl,(Below.refl _ _).alloc (Nat.le_refl _) _⟩
 ·have hk1:decide (k < 1)=false:=by rw [decide_eq_false_iff_not];omega
  go_enter Tryz.func73,Tryz.ntmps73
  go_wp2_with (refine wpList_store_new rfl 116 (.tmp 2) (.tmp 10) rfl _ ring0 rfl rfl HI.out rfl H1.out ?_)
  exact bodyPost_ret (results_cell8 rfl _ _ w.heap.size ring0.toList (.bool false) rfl rfl rfl (range_new w ring0 _)) rfl ⟨rfl,(Below.refl _ _).alloc (Nat.le_refl _) _⟩
end Go.Proofs.YtjekapjbigfkbaaGreatDoor
namespace Go.Proofs.YtjekapjbigfkbaaGreatDoor
open Go Go.RowKit
set_option maxRecDepth 100000
theorem below_setCells' {B b:Nat} {a:World}:∀ {w:World},Below B a w→B≤b→∀ (vs:List Value) (o:Nat),Below B a (w.setCells b o vs)
 | _,h,_,[],_=>h
 | _,h,hB,v::vs,o=>below_setCells' (h.setCell (p:=⟨b,o,none⟩) hB v) hB vs (o+1)
theorem of_gen (k:Int) (RV R:Array Value) (w:World) (hk0:1≤k) (hk3:k≤3) (hsz:R.size=8) (h1:R.all (·.oneCell')=true) (hr:∀ wx,Calls Tryz.prog 120 #[] wx fun e w'=>e=.returned (.agg RV)∧Below wx.heap.size wx w')
  (hx:∀ w,(Instr.index 156 (.agg RV) (.int .i64 k)).run Tryz.prog w=.ok (.agg R) w):Calls Tryz.prog 73 #[.int .i64 k] w (OfEnd R true w):=by
 have hi:(Tryz.prog.info? 116).map (·.size)=some R.size:=by rw [hsz];kernel_rfl
 have HI:=Lib.hid hi;clear hi
 have H1:=Lib.hid h1;clear h1
 have HR:=Lib.hid hr;clear hr
 have HS:=Lib.hid hsz;clear hsz
 have hk1:decide (k < 1)=false:=by rw [decide_eq_false_iff_not];omega
 have hk2:decide (3 < k)=false:=by rw [decide_eq_false_iff_not];omega
 have hb0:Below w.heap.size w (w.alloc (.cells ring0 116)):=(Below.refl _ _).alloc (Nat.le_refl _) _
 have HB0:=Lib.hid hb0;clear hb0
 go_enter Tryz.func73,Tryz.ntmps73
 go_wp2_with fail
 refine (HR.out _).mono ?_
 rintro e w1 ⟨rfl,hb1⟩
 have HB1:=Lib.hid hb1;clear hb1
 have ht:=there8 rfl HB1.out
 rw [← HS.out] at ht
 have HT:=Lib.hid ht;clear ht
 go_wp2_with (refine wpList_store_mid rfl 116 (.tmp 2) (.tmp 13) rfl w.heap.size 0 R rfl rfl HT.out HI.out H1.out ?_)
 have hrng:=World.rangeAt_setCells_same w1 w.heap.size 0 R.toList (by rw [Array.length_toList];exact HT.out)
 have hres:=results_cell8 (fn:=Tryz.f73) rfl #[.int .i64 k,undef,.pointer (some ⟨w.heap.size,0,none⟩),.bool true,.int .i64 k,.bool false,.bool false,.int .i64 k,.bool false,.bool false,undef,.agg RV,.int .i64 k,.agg R] _ w.heap.size R.toList (.bool true) rfl rfl (by rw [Array.length_toList];exact HS.out) hrng
 rw [Array.toArray_toList] at hres
 exact bodyPost_ret hres rfl ⟨rfl,below_setCells' (HB0.out.trans (HB1.out.mono HB0.out.size)) (Nat.le_refl _) _ _⟩
theorem index_1 (w:World):(Instr.index 156 (.agg ringsV) (.int .i64 1)).run Tryz.prog w=.ok (.agg ring1) w:=by kernel_rfl
theorem of_1 (w:World):Calls Tryz.prog 73 #[.int .i64 1] w (OfEnd ring1 true w) :=
 of_gen 1 ringsV ring1 w (by decide) (by decide) rfl (by decide +kernel) rings_any index_1
theorem index_2 (w:World):(Instr.index 156 (.agg ringsV) (.int .i64 2)).run Tryz.prog w=.ok (.agg ring2) w:=by kernel_rfl
theorem of_2 (w:World):Calls Tryz.prog 73 #[.int .i64 2] w (OfEnd ring2 true w) :=
 of_gen 2 ringsV ring2 w (by decide) (by decide) rfl (by decide +kernel) rings_any index_2
theorem index_3 (w:World):(Instr.index 156 (.agg ringsV) (.int .i64 3)).run Tryz.prog w=.ok (.agg ring3) w:=by kernel_rfl
theorem of_3 (w:World):Calls Tryz.prog 73 #[.int .i64 3] w (OfEnd ring3 true w) :=
 of_gen 3 ringsV ring3 w (by decide) (by decide) rfl (by decide +kernel) rings_any index_3
end Go.Proofs.YtjekapjbigfkbaaGreatDoor
namespace Go.Proofs.YtjekapjbigfkbaaGreatDoor
open Go Go.RowKit
set_option maxRecDepth 100000
theorem infS_list:infS.toList=[105,110,102]:=by rw [Lib.toList_data];rfl
theorem lowS_list:lowS.toList=[45,105,110,102]:=by rw [Lib.toList_data];rfl
theorem txt_ne_inf {q:Rat} (h:fitQ q):((txt q).toList == [105,110,102])=false:=by
 refine ne_list (l:=[105,110,102]) (fun e=>?_)
 have:=prs_txt h;rw [e] at this
 have h2:=prs_inf;unfold infS at h2
 rw [show str [105,110,102]=(⟨#[105,110,102]⟩:ByteArray) from rfl,h2] at this;simp at this
theorem txt_ne_low {q:Rat} (h:fitQ q):((txt q).toList == [45,105,110,102])=false:=by
 refine ne_list (l:=[45,105,110,102]) (fun e=>?_)
 have:=prs_txt h;rw [e] at this
 have h2:=prs_low;unfold lowS at h2
 rw [show str [45,105,110,102]=(⟨#[45,105,110,102]⟩:ByteArray) from rfl,h2] at this;simp at this
theorem qcmpF_txt {x y:Rat} (hx:fitQ x) (hy:fitQ y):qcmpF (txt x) (txt y)=cmpQ x y:=by unfold qcmpF;rw [prs_txt hx,prs_txt hy]
set_option maxHeartbeats 4000000 in
theorem vcompare_any (v u:V) (w:World) (hv:fitV v) (hu:fitV u) (ht:Tab w):Calls Tryz.prog 75 #[.string (vtxt v),.string (vtxt u)] w (IntEnd (cmpV v u) w):=by
 have run:∀ (a b:ByteArray) (z:Int) (h0:z=0∧a=b∨a≠b) (c:a≠b→a≠infS→a≠lowS→b≠infS→b≠lowS→Calls Tryz.prog 44 #[.string a,.string b] w (IntEnd z w))
   (hz:a≠b→((a=lowS∨b=infS)∧z=-1)∨(a≠lowS∧b≠infS∧(b=lowS∨a=infS)∧z=1)∨(a≠lowS∧b≠infS∧b≠lowS∧a≠infS)),
   Calls Tryz.prog 75 #[.string a,.string b] w (IntEnd z w):=by
  intro a b z h0 c hz
  rcases h0 with ⟨rfl,rfl⟩ | h0
  ·clear c hz
   go_enter Tryz.func75,Tryz.ntmps75
   go_wp2
   go_ret
   exact ⟨rfl,Below.refl _ _⟩
  ·have hne:(a.toList == b.toList)=false:=by rw [beq_eq_false_iff_ne];exact ne_toList h0
   have al:∀ s:ByteArray,s≠lowS→(s.toList == [45,105,110,102])=false:=fun s h=>ne_list (l:=[45,105,110,102]) h
   have ai:∀ s:ByteArray,s≠infS→(s.toList == [105,110,102])=false:=fun s h=>ne_list (l:=[105,110,102]) h
   have AL:=Lib.hid al;clear al
   have AI:=Lib.hid ai;clear ai
   rcases hz h0 with ⟨h1,rfl⟩ | ⟨h1,h2,h3,rfl⟩ | ⟨h1,h2,h3,h4⟩
   ·clear c hz
    by_cases h1':a=lowS
    ·have e1:(a.toList == [45,105,110,102])=true:=by rw [h1',lowS_list];rfl
     clear h0 h1 h1'
     go_enter Tryz.func75,Tryz.ntmps75
     go_wp2
     go_ret
     exact ⟨rfl,Below.refl _ _⟩
    ·have e1:=AL.out a h1'
     have e2:(b.toList == [105,110,102])=true:=by rw [h1.resolve_left h1',infS_list];rfl
     clear h0 h1 h1'
     go_enter Tryz.func75,Tryz.ntmps75
     go_wp2
     go_ret
     exact ⟨rfl,Below.refl _ _⟩
   ·clear c hz
    have e1:=AL.out a h1
    have e2:=AI.out b h2
    by_cases h3':b=lowS
    ·have e3:(b.toList == [45,105,110,102])=true:=by rw [h3',lowS_list];rfl
     cases e4:(a.toList == [105,110,102])
     all_goals
      clear h0 h1 h2 h3 h3'
      go_enter Tryz.func75,Tryz.ntmps75
      go_wp2
      go_ret
      exact ⟨rfl,Below.refl _ _⟩
    ·have e3:=AL.out b h3'
     have e4:(a.toList == [105,110,102])=true:=by rw [h3.resolve_left h3',infS_list];rfl
     clear h0 h1 h2 h3 h3'
     go_enter Tryz.func75,Tryz.ntmps75
     go_wp2
     go_ret
     exact ⟨rfl,Below.refl _ _⟩
   ·have e1:=AL.out a h1
    have e2:=AI.out b h2
    have e3:=AL.out b h3
    have e4:=AI.out a h4
    have C:=Lib.hid (c h0 h4 h1 h2 h3);clear c hz h0 h1 h2 h3 h4
    go_enter Tryz.func75,Tryz.ntmps75
    go_wp2_with fail
    refine C.out.mono ?_
    rintro e w1 ⟨rfl,hb⟩
    have HB:=Lib.hid hb;clear hb
    go_wp2
    go_ret
    exact ⟨rfl,HB.out⟩
 refine run _ _ _ ?_ ?_ ?_
 ·by_cases h:v=u
  ·subst h;exact .inl ⟨(cmpV_zero v v).2 rfl,rfl⟩
  ·exact .inr (fun e=>h (vtxt_inj hv hu e))
 ·intro _ h1 h2 h3 h4
  cases v with
  | inf=>exact absurd rfl h1
  | low=>exact absurd rfl h2
  | fin x =>
   cases u with
   | inf=>exact absurd rfl h3
   | low=>exact absurd rfl h4
   | fin y =>
    have hc:=qcmp_any (txt x) (txt y) w (by have:=txt_size hv;omega) (by have:=txt_size hu;omega) ht
    rw [qcmpF_txt hv hu] at hc;exact hc
 ·intro h
  have il:infS≠lowS:=by decide
  have fi:∀ q:Rat,fitQ q→txt q≠infS:=fun q hq e=>by have:=txt_ne_inf hq;rw [e,infS_list] at this;simp at this
  have fl:∀ q:Rat,fitQ q→txt q≠lowS:=fun q hq e=>by have:=txt_ne_low hq;rw [e,lowS_list] at this;simp at this
  cases v with
  | inf =>
   cases u with
   | inf=>exact absurd rfl h
   | low=>exact .inr (.inl ⟨il,Ne.symm il,.inl rfl,rfl⟩)
   | fin y=>exact .inr (.inl ⟨il,fi y hu,.inr rfl,rfl⟩)
  | low =>
   cases u with
   | inf=>exact .inl ⟨.inl rfl,rfl⟩
   | low=>exact absurd rfl h
   | fin y=>exact .inl ⟨.inl rfl,rfl⟩
  | fin x =>
   cases u with
   | inf=>exact .inl ⟨.inr rfl,rfl⟩
   | low=>exact .inr (.inl ⟨fl x hv,Ne.symm il,.inl rfl,rfl⟩)
   | fin y=>exact .inr (.inr ⟨fl x hv,fi y hu,fl y hu,fi x hv⟩)
end Go.Proofs.YtjekapjbigfkbaaGreatDoor
