/- Parts of a proof: MR4 C2. -/
import Derived.Test.YtjekapjbigfkbaaGreatDoorK10
import Derived.Test.YtjekapjbigfkbaaGreatDoorK15
import Derived.Test.YtjekapjbigfkbaaGreatDoorK12
import Derived.Test.YtjekapjbigfkbaaGreatDoorK00
import Derived.Deep.OwnRows
import Derived.Deep.AppendLies
import Derived.Test.YtjekapjbigfkbaaGreatDoorK01
namespace Go.Proofs.YtjekapjbigfkbaaGreatDoor
open Go Go.RowKit
set_option maxRecDepth 100000
set_option maxHeartbeats 4000000 in
theorem rcompare4_any (v u:V) (w:World) (hv:fitV v) (hu:fitV u):Calls Tryz.prog 134 #[.string (vtxt v),.string (vtxt u)] w (IntEnd (cmpV v u) w):=by
 have run:∀ (a b:ByteArray) (z:Int) (h0:z=0∧a=b∨a≠b) (c:a≠b→a≠infS→a≠lowS→b≠infS→b≠lowS→Calls Tryz.prog 93 #[.string a,.string b] w (IntEnd z w))
   (hz:a≠b→((a=lowS∨b=infS)∧z=-1)∨(a≠lowS∧b≠infS∧(b=lowS∨a=infS)∧z=1)∨(a≠lowS∧b≠infS∧b≠lowS∧a≠infS)),
   Calls Tryz.prog 134 #[.string a,.string b] w (IntEnd z w):=by
  intro a b z h0 c hz
  rcases h0 with ⟨rfl,rfl⟩ | h0
  ·clear c hz
   go_enter Tryz.func134,Tryz.ntmps134
   go_wp2
   go_ret
   exact ⟨rfl,Below.refl _ _⟩
  ·have hne:(a.toList == b.toList)=false:=by rw [beq_eq_false_iff_ne];exact ne_toList h0
   have al:∀ s:ByteArray,s≠lowS→(s.toList == [45,105,110,102])=false:=fun s h=>ne_list (l:=[45,105,110,102]) h
   have ai:∀ s:ByteArray,s≠infS→(s.toList == [105,110,102])=false:=fun s h=>ne_list (l:=[105,110,102]) h
   have AL:=Lib.hid al;clear al
   have AI:=Lib.hid ai;clear ai
   rcases hz h0 with ⟨h1,rfl⟩ | ⟨h1,h2,h3,rfl⟩ | ⟨h1,h2,h3,h4⟩
   ·clear c hz
    by_cases h1':a=lowS
    ·have e1:(a.toList == [45,105,110,102])=true:=by rw [h1',lowS_list];rfl
     clear h0 h1 h1'
     go_enter Tryz.func134,Tryz.ntmps134
     go_wp2
     go_ret
     exact ⟨rfl,Below.refl _ _⟩
    ·have e1:=AL.out a h1'
     have e2:(b.toList == [105,110,102])=true:=by rw [h1.resolve_left h1',infS_list];rfl
     clear h0 h1 h1'
     go_enter Tryz.func134,Tryz.ntmps134
     go_wp2
     go_ret
     exact ⟨rfl,Below.refl _ _⟩
   ·clear c hz
    have e1:=AL.out a h1
    have e2:=AI.out b h2
    by_cases h3':b=lowS
    ·have e3:(b.toList == [45,105,110,102])=true:=by rw [h3',lowS_list];rfl
     cases e4:(a.toList == [105,110,102])
     all_goals
      clear h0 h1 h2 h3 h3'
      go_enter Tryz.func134,Tryz.ntmps134
      go_wp2
      go_ret
      exact ⟨rfl,Below.refl _ _⟩
    ·have e3:=AL.out b h3'
     have e4:(a.toList == [105,110,102])=true:=by rw [h3.resolve_left h3',infS_list];rfl
     clear h0 h1 h2 h3 h3'
     go_enter Tryz.func134,Tryz.ntmps134
     go_wp2
     go_ret
     exact ⟨rfl,Below.refl _ _⟩
   ·have e1:=AL.out a h1
    have e2:=AI.out b h2
    have e3:=AL.out b h3
    have e4:=AI.out a h4
    have C:=Lib.hid (c h0 h4 h1 h2 h3);clear c hz h0 h1 h2 h3 h4
    go_enter Tryz.func134,Tryz.ntmps134
    go_wp2_with fail
    refine C.out.mono ?_
    rintro e w1 ⟨rfl,hb⟩
    have HB:=Lib.hid hb;clear hb
    go_wp2
    go_ret
    exact ⟨rfl,HB.out⟩
 refine run _ _ _ ?_ ?_ ?_
 ·by_cases h:v=u
  ·subst h;exact .inl ⟨(cmpV_zero v v).2 rfl,rfl⟩
  ·exact .inr (fun e=>h (vtxt_inj hv hu e))
 ·intro _ h1 h2 h3 h4
  cases v with
  | inf=>exact absurd rfl h1
  | low=>exact absurd rfl h2
  | fin x =>
   cases u with
   | inf=>exact absurd rfl h3
   | low=>exact absurd rfl h4
   | fin y =>
    have hc:=scmp_any (txt x) (txt y) w (by have:=txt_size hv;omega) (by have:=txt_size hu;omega)
    rw [qcmpF_txt hv hu] at hc;exact hc
 ·intro h
  have il:infS≠lowS:=by decide
  have fi:∀ q:Rat,fitQ q→txt q≠infS:=fun q hq e=>by have:=txt_ne_inf hq;rw [e,infS_list] at this;simp at this
  have fl:∀ q:Rat,fitQ q→txt q≠lowS:=fun q hq e=>by have:=txt_ne_low hq;rw [e,lowS_list] at this;simp at this
  cases v with
  | inf =>
   cases u with
   | inf=>exact absurd rfl h
   | low=>exact .inr (.inl ⟨il,Ne.symm il,.inl rfl,rfl⟩)
   | fin y=>exact .inr (.inl ⟨il,fi y hu,.inr rfl,rfl⟩)
  | low =>
   cases u with
   | inf=>exact .inl ⟨.inl rfl,rfl⟩
   | low=>exact absurd rfl h
   | fin y=>exact .inl ⟨.inl rfl,rfl⟩
  | fin x =>
   cases u with
   | inf=>exact .inl ⟨.inr rfl,rfl⟩
   | low=>exact .inr (.inl ⟨fl x hv,Ne.symm il,.inl rfl,rfl⟩)
   | fin y=>exact .inr (.inr ⟨fl x hv,fi y hu,fl y hu,fi x hv⟩)
end Go.Proofs.YtjekapjbigfkbaaGreatDoor
namespace Go.Proofs.YtjekapjbigfkbaaGreatDoor
open Go Go.RowKit
set_option maxRecDepth 100000
theorem kind1:kindB 1=true:=rfl
theorem kind2:kindB 2=true:=rfl
theorem kind3:kindB 3=true:=rfl
theorem rkind_any (k:Int) (w:World):Calls Tryz.prog 53 #[.int .i64 k] w fun e w'=>e=.returned (.bool (kindB k))∧w=w':=by
 rcases kind_cases k with rfl | rfl | rfl | hk
 ·rw [kind1]
  go_enter Tryz.func53,Tryz.ntmps53
  go_wp2_with fail
  go_ret
  exact ⟨rfl,rfl⟩
 ·rw [kind2]
  go_enter Tryz.func53,Tryz.ntmps53
  go_wp2_with fail
  go_ret
  exact ⟨rfl,rfl⟩
 ·rw [kind3]
  go_enter Tryz.func53,Tryz.ntmps53
  go_wp2_with fail
  go_ret
  exact ⟨rfl,rfl⟩
 ·rw [kind_no hk]
  rcases hk with hk | hk
  ·have h1:decide (1≤k)=false:=by rw [decide_eq_false_iff_not];omega
   clear hk
   go_enter Tryz.func53,Tryz.ntmps53
   go_wp2_with fail
   go_ret
   exact ⟨rfl,rfl⟩
  ·have h1:decide (1≤k)=true:=by rw [decide_eq_true_eq];omega
   have h2:decide (k≤3)=false:=by rw [decide_eq_false_iff_not];omega
   have h3:(1:Int)≤k:=by omega
   clear hk
   go_enter Tryz.func53,Tryz.ntmps53
   go_wp2_with fail
   go_ret
   exact ⟨rfl,rfl⟩
set_option maxHeartbeats 2000000 in
theorem r4valid_1 (a:ByteArray) (w:World) (ha:a.size≤9223372036854775807):Calls Tryz.prog 105 #[.int .i64 1,.string a] w (BoolE (validF 1 a) w):=by
 by_cases h1:a=infS
 ·have e1:(a.toList == [105,110,102])=true:=by rw [h1,infS_list];rfl
  have hr:validF 1 a=true:=by rw [h1];exact validF_inf (by omega)
  rw [hr];clear hr h1 ha
  go_enter Tryz.func105,Tryz.ntmps105
  go_wp2_with fail
  refine (rkind_any _ _).mono ?_
  rintro e wk ⟨rfl,rfl⟩
  rw [kind1]
  go_wp2_with fail
  go_ret
  exact ⟨rfl,Below.refl _ _⟩
 ·have e1:(a.toList == [105,110,102])=false:=ne_list (l:=[105,110,102]) h1
  by_cases h2:a=lowS
  ·have e2:(a.toList == [45,105,110,102])=true:=by rw [h2,lowS_list];rfl
   have hr:validF 1 a=true:=by rw [h2];exact validF_low1
   rw [hr];clear hr h1 h2 ha
   go_enter Tryz.func105,Tryz.ntmps105
   go_wp2_with fail
   refine (rkind_any _ _).mono ?_
   rintro e wk ⟨rfl,rfl⟩
   rw [kind1]
   go_wp2_with fail
   go_ret
   exact ⟨rfl,Below.refl _ _⟩
  ·have e2:(a.toList == [45,105,110,102])=false:=ne_list (l:=[45,105,110,102]) h2
   have c1:=fun wx=>svalid_any a wx ha
   rw [validF_1 h1 h2]
   generalize (prs a).isSome=o at *
   clear h1 h2
   have C1:=Lib.hid c1;clear c1 ha
   cases o
   all_goals
    go_enter Tryz.func105,Tryz.ntmps105
    go_wp2_with fail
    refine (rkind_any _ _).mono ?_
    rintro e wk ⟨rfl,rfl⟩
    rw [kind1]
    go_wp2_with fail
    have hq1:=C1.out w
    refine hq1.mono ?_
    clear hq1
    rintro e w1 ⟨rfl,hb⟩
    have HB1:=Lib.hid (hb);clear hb
    go_wp2_with fail
    go_ret
    exact ⟨rfl,HB1.out⟩
set_option maxHeartbeats 2000000 in
theorem r4valid_2 (a:ByteArray) (w:World) (ha:a.size≤9223372036854775807):Calls Tryz.prog 105 #[.int .i64 2,.string a] w (BoolE (validF 2 a) w):=by
 by_cases h1:a=infS
 ·have e1:(a.toList == [105,110,102])=true:=by rw [h1,infS_list];rfl
  have hr:validF 2 a=true:=by rw [h1];exact validF_inf (by omega)
  rw [hr];clear hr h1 ha
  go_enter Tryz.func105,Tryz.ntmps105
  go_wp2_with fail
  refine (rkind_any _ _).mono ?_
  rintro e wk ⟨rfl,rfl⟩
  rw [kind2]
  go_wp2_with fail
  go_ret
  exact ⟨rfl,Below.refl _ _⟩
 ·have e1:(a.toList == [105,110,102])=false:=ne_list (l:=[105,110,102]) h1
  by_cases h2:a=lowS
  ·have e2:(a.toList == [45,105,110,102])=true:=by rw [h2,lowS_list];rfl
   have hr:validF 2 a=false:=by rw [h2];decide +kernel
   rw [hr];clear hr h1 h2 ha
   go_enter Tryz.func105,Tryz.ntmps105
   go_wp2_with fail
   refine (rkind_any _ _).mono ?_
   rintro e wk ⟨rfl,rfl⟩
   rw [kind2]
   go_wp2_with fail
   go_ret
   exact ⟨rfl,Below.refl _ _⟩
  ·have e2:(a.toList == [45,105,110,102])=false:=ne_list (l:=[45,105,110,102]) h2
   have c1:=fun wx=>svalid_any a wx ha
   rw [validF_23 (by omega) h1]
   clear h1 h2
   cases hp:prs a with
   | none =>
    have hr:natB a=false:=by unfold natB;rw [hp]
    rw [hr];rw [hp] at c1;simp only [Option.isSome] at c1
    have C1:=Lib.hid c1;clear c1 ha hp hr
    go_enter Tryz.func105,Tryz.ntmps105
    go_wp2_with fail
    refine (rkind_any _ _).mono ?_
    rintro e wk ⟨rfl,rfl⟩
    rw [kind2]
    go_wp2_with fail
    have hq1:=C1.out w
    refine hq1.mono ?_
    clear hq1
    rintro e w1 ⟨rfl,hb⟩
    have HB1:=Lib.hid (hb);clear hb
    go_wp2_with fail
    go_ret
    exact ⟨rfl,HB1.out⟩
   | some q =>
    have hr:natB a=decide (0≤q):=by unfold natB;rw [hp]
    have c2:=fun wx=>scmp_any a ⟨#[48]⟩ wx ha (by decide)
    rw [qcmpF_zero hp] at c2
    rw [hr];rw [hp] at c1;simp only [Option.isSome] at c1
    have hd:(decide (0≤q)=decide (0≤cmpQ q 0)):=by
     rcases cmpQ_cases q 0 with ⟨h,e⟩ | ⟨h,e⟩ | ⟨h,e⟩ <;> rw [e]
     ·rw [decide_eq_decide];simp;exact Rat.not_le.2 h
     ·subst h;rfl
     ·rw [decide_eq_decide];simp;exact Rat.le_of_lt h
    rw [hd]
    have hz:cmpQ q 0=-1∨cmpQ q 0=0∨cmpQ q 0=1:=by rcases cmpQ_cases q 0 with ⟨h,e⟩ | ⟨h,e⟩ | ⟨h,e⟩ <;> simp [e]
    generalize cmpQ q 0=z at *
    have C1:=Lib.hid c1;clear c1
    have C2:=Lib.hid c2;clear c2 ha hp hr hd
    rcases hz with rfl | rfl | rfl
    all_goals
     go_enter Tryz.func105,Tryz.ntmps105
     go_wp2_with fail
     refine (rkind_any _ _).mono ?_
     rintro e wk ⟨rfl,rfl⟩
     rw [kind2]
     go_wp2_with fail
     have hq1:=C1.out w
     refine hq1.mono ?_
     clear hq1
     rintro e w1 ⟨rfl,hb⟩
     have HB1:=Lib.hid (hb);clear hb
     go_wp2_with fail
     have hq2:=C2.out w1
     refine hq2.mono ?_
     clear hq2
     rintro e w2 ⟨rfl,hb⟩
     have HB2:=Lib.hid (next_below HB1.out hb);clear hb
     go_wp2_with fail
     go_ret
     exact ⟨rfl,HB2.out⟩
set_option maxHeartbeats 2000000 in
theorem r4valid_3 (a:ByteArray) (w:World) (ha:a.size≤9223372036854775807):Calls Tryz.prog 105 #[.int .i64 3,.string a] w (BoolE (validF 3 a) w):=by
 by_cases h1:a=infS
 ·have e1:(a.toList == [105,110,102])=true:=by rw [h1,infS_list];rfl
  have hr:validF 3 a=true:=by rw [h1];exact validF_inf (by omega)
  rw [hr];clear hr h1 ha
  go_enter Tryz.func105,Tryz.ntmps105
  go_wp2_with fail
  refine (rkind_any _ _).mono ?_
  rintro e wk ⟨rfl,rfl⟩
  rw [kind3]
  go_wp2_with fail
  go_ret
  exact ⟨rfl,Below.refl _ _⟩
 ·have e1:(a.toList == [105,110,102])=false:=ne_list (l:=[105,110,102]) h1
  by_cases h2:a=lowS
  ·have e2:(a.toList == [45,105,110,102])=true:=by rw [h2,lowS_list];rfl
   have hr:validF 3 a=false:=by rw [h2];decide +kernel
   rw [hr];clear hr h1 h2 ha
   go_enter Tryz.func105,Tryz.ntmps105
   go_wp2_with fail
   refine (rkind_any _ _).mono ?_
   rintro e wk ⟨rfl,rfl⟩
   rw [kind3]
   go_wp2_with fail
   go_ret
   exact ⟨rfl,Below.refl _ _⟩
  ·have e2:(a.toList == [45,105,110,102])=false:=ne_list (l:=[45,105,110,102]) h2
   have c1:=fun wx=>svalid_any a wx ha
   rw [validF_23 (by omega) h1]
   clear h1 h2
   cases hp:prs a with
   | none =>
    have hr:natB a=false:=by unfold natB;rw [hp]
    rw [hr];rw [hp] at c1;simp only [Option.isSome] at c1
    have C1:=Lib.hid c1;clear c1 ha hp hr
    go_enter Tryz.func105,Tryz.ntmps105
    go_wp2_with fail
    refine (rkind_any _ _).mono ?_
    rintro e wk ⟨rfl,rfl⟩
    rw [kind3]
    go_wp2_with fail
    have hq1:=C1.out w
    refine hq1.mono ?_
    clear hq1
    rintro e w1 ⟨rfl,hb⟩
    have HB1:=Lib.hid (hb);clear hb
    go_wp2_with fail
    go_ret
    exact ⟨rfl,HB1.out⟩
   | some q =>
    have hr:natB a=decide (0≤q):=by unfold natB;rw [hp]
    have c2:=fun wx=>scmp_any a ⟨#[48]⟩ wx ha (by decide)
    rw [qcmpF_zero hp] at c2
    rw [hr];rw [hp] at c1;simp only [Option.isSome] at c1
    have hd:(decide (0≤q)=decide (0≤cmpQ q 0)):=by
     rcases cmpQ_cases q 0 with ⟨h,e⟩ | ⟨h,e⟩ | ⟨h,e⟩ <;> rw [e]
     ·rw [decide_eq_decide];simp;exact Rat.not_le.2 h
     ·subst h;rfl
     ·rw [decide_eq_decide];simp;exact Rat.le_of_lt h
    rw [hd]
    have hz:cmpQ q 0=-1∨cmpQ q 0=0∨cmpQ q 0=1:=by rcases cmpQ_cases q 0 with ⟨h,e⟩ | ⟨h,e⟩ | ⟨h,e⟩ <;> simp [e]
    generalize cmpQ q 0=z at *
    have C1:=Lib.hid c1;clear c1
    have C2:=Lib.hid c2;clear c2 ha hp hr hd
    rcases hz with rfl | rfl | rfl
    all_goals
     go_enter Tryz.func105,Tryz.ntmps105
     go_wp2_with fail
     refine (rkind_any _ _).mono ?_
     rintro e wk ⟨rfl,rfl⟩
     rw [kind3]
     go_wp2_with fail
     have hq1:=C1.out w
     refine hq1.mono ?_
     clear hq1
     rintro e w1 ⟨rfl,hb⟩
     have HB1:=Lib.hid (hb);clear hb
     go_wp2_with fail
     have hq2:=C2.out w1
     refine hq2.mono ?_
     clear hq2
     rintro e w2 ⟨rfl,hb⟩
     have HB2:=Lib.hid (next_below HB1.out hb);clear hb
     go_wp2_with fail
     go_ret
     exact ⟨rfl,HB2.out⟩
theorem r4valid_no (k:Int) (a:ByteArray) (w:World) (hk:k < 1∨3 < k):Calls Tryz.prog 105 #[.int .i64 k,.string a] w (BoolE (validF k a) w):=by
 rw [validF_no hk]
 have HK:=Lib.hid (kind_no hk);clear hk
 go_enter Tryz.func105,Tryz.ntmps105
 go_wp2_with fail
 refine (rkind_any _ _).mono ?_
 rintro e wk ⟨rfl,rfl⟩
 rw [HK.out]
 go_wp2_with fail
 go_ret
 exact ⟨rfl,Below.refl _ _⟩
theorem r4valid_any (k:Int) (a:ByteArray) (w:World) (ha:a.size≤9223372036854775807):Calls Tryz.prog 105 #[.int .i64 k,.string a] w (BoolE (validF k a) w):=by
 rcases kind_cases k with rfl | rfl | rfl | hk
 ·exact r4valid_1 a w ha
 ·exact r4valid_2 a w ha
 ·exact r4valid_3 a w ha
 ·exact r4valid_no k a w hk
theorem r4zero_1 (w:World):Calls Tryz.prog 45 #[.int .i64 1] w (StrE (zeroF 1) w):=by
 rw [zeroF_1]
 go_enter Tryz.func45,Tryz.ntmps45
 go_wp2_with fail
 refine (rkind_any _ _).mono ?_
 rintro e wk ⟨rfl,rfl⟩
 rw [kind1]
 go_wp2_with fail
 go_ret
 exact ⟨rfl,Below.refl _ _⟩
theorem r4zero_2 (w:World):Calls Tryz.prog 45 #[.int .i64 2] w (StrE (zeroF 2) w):=by
 rw [zeroF_2]
 go_enter Tryz.func45,Tryz.ntmps45
 go_wp2_with fail
 refine (rkind_any _ _).mono ?_
 rintro e wk ⟨rfl,rfl⟩
 rw [kind2]
 go_wp2_with fail
 go_ret
 exact ⟨rfl,Below.refl _ _⟩
theorem r4zero_3 (w:World):Calls Tryz.prog 45 #[.int .i64 3] w (StrE (zeroF 3) w):=by
 rw [zeroF_3]
 go_enter Tryz.func45,Tryz.ntmps45
 go_wp2_with fail
 refine (rkind_any _ _).mono ?_
 rintro e wk ⟨rfl,rfl⟩
 rw [kind3]
 go_wp2_with fail
 go_ret
 exact ⟨rfl,Below.refl _ _⟩
theorem r4zero_no (k:Int) (w:World) (hk:k < 1∨3 < k):Calls Tryz.prog 45 #[.int .i64 k] w (StrE (zeroF k) w):=by
 rw [zeroF_no hk]
 have HK:=Lib.hid (kind_no hk);clear hk
 go_enter Tryz.func45,Tryz.ntmps45
 go_wp2_with fail
 refine (rkind_any _ _).mono ?_
 rintro e wk ⟨rfl,rfl⟩
 rw [HK.out]
 go_wp2_with fail
 go_ret
 exact ⟨rfl,Below.refl _ _⟩
theorem r4zero_any (k:Int) (w:World):Calls Tryz.prog 45 #[.int .i64 k] w (StrE (zeroF k) w):=by
 rcases kind_cases k with rfl | rfl | rfl | hk
 ·exact r4zero_1 w
 ·exact r4zero_2 w
 ·exact r4zero_3 w
 ·exact r4zero_no k w hk
set_option maxHeartbeats 4000000 in
theorem r4better_1 (a b:ByteArray) (w:World) (ha:a.size≤9223372036854775807) (hb:b.size≤9223372036854775807) (h1:validF 1 a=true) (h2:validF 1 b=true):Calls Tryz.prog 98 #[.int .i64 1,.string a,.string b] w (IntEnd (betterF 1 a b) w):=by
 have c1:=fun wx=>r4valid_any 1 a wx ha
 have c2:=fun wx=>r4valid_any 1 b wx hb
 rw [h1] at c1;rw [h2] at c2
 obtain ⟨v,pv,rv,ov,ea,fv'⟩:=valid_v h1
 obtain ⟨u,pu,ru,ou,eb,fu⟩:=valid_v h2
 have C1:=Lib.hid c1;clear c1
 have C2:=Lib.hid c2;clear c2
 have hr:betterF 1 a b=cmpV v u:=by unfold betterF;rw [pv,pu];rfl
 have c3:=fun wx=>rcompare4_any v u wx fv' fu
 rw [← ea,← eb,← hr] at c3
 generalize betterF 1 a b=r at *
 have C3:=Lib.hid c3;clear c3 hr pv rv ov ea fv' pu ru ou eb fu ha hb h1 h2
 go_enter Tryz.func98,Tryz.ntmps98
 go_wp2_with fail
 have hq1:=C1.out w
 refine hq1.mono ?_
 clear hq1
 rintro e w1 ⟨rfl,hb⟩
 have HB1:=Lib.hid (hb);clear hb
 go_wp2_with fail
 have hq2:=C2.out w1
 refine hq2.mono ?_
 clear hq2
 rintro e w2 ⟨rfl,hb⟩
 have HB2:=Lib.hid (next_below HB1.out hb);clear hb
 go_wp2_with fail
 have hq3:=C3.out w2
 refine hq3.mono ?_
 clear hq3
 rintro e w3 ⟨rfl,hb⟩
 have HB3:=Lib.hid (next_below HB2.out hb);clear hb
 go_wp2_with fail
 go_ret
 exact ⟨rfl,HB3.out⟩
set_option maxHeartbeats 4000000 in
theorem r4better_2 (a b:ByteArray) (w:World) (ha:a.size≤9223372036854775807) (hb:b.size≤9223372036854775807) (h1:validF 2 a=true) (h2:validF 2 b=true):Calls Tryz.prog 98 #[.int .i64 2,.string a,.string b] w (IntEnd (betterF 2 a b) w):=by
 have c1:=fun wx=>r4valid_any 2 a wx ha
 have c2:=fun wx=>r4valid_any 2 b wx hb
 rw [h1] at c1;rw [h2] at c2
 obtain ⟨v,pv,rv,ov,ea,fv'⟩:=valid_v h1
 obtain ⟨u,pu,ru,ou,eb,fu⟩:=valid_v h2
 have C1:=Lib.hid c1;clear c1
 have C2:=Lib.hid c2;clear c2
 have hr:betterF 2 a b=cmpV u v:=by unfold betterF;rw [pv,pu];rfl
 have c3:=fun wx=>rcompare4_any u v wx fu fv'
 rw [← ea,← eb,← hr] at c3
 generalize betterF 2 a b=r at *
 have C3:=Lib.hid c3;clear c3 hr pv rv ov ea fv' pu ru ou eb fu ha hb h1 h2
 go_enter Tryz.func98,Tryz.ntmps98
 go_wp2_with fail
 have hq1:=C1.out w
 refine hq1.mono ?_
 clear hq1
 rintro e w1 ⟨rfl,hb⟩
 have HB1:=Lib.hid (hb);clear hb
 go_wp2_with fail
 have hq2:=C2.out w1
 refine hq2.mono ?_
 clear hq2
 rintro e w2 ⟨rfl,hb⟩
 have HB2:=Lib.hid (next_below HB1.out hb);clear hb
 go_wp2_with fail
 have hq3:=C3.out w2
 refine hq3.mono ?_
 clear hq3
 rintro e w3 ⟨rfl,hb⟩
 have HB3:=Lib.hid (next_below HB2.out hb);clear hb
 go_wp2_with fail
 go_ret
 exact ⟨rfl,HB3.out⟩
set_option maxHeartbeats 4000000 in
theorem r4better_3 (a b:ByteArray) (w:World) (ha:a.size≤9223372036854775807) (hb:b.size≤9223372036854775807) (h1:validF 3 a=true) (h2:validF 3 b=true):Calls Tryz.prog 98 #[.int .i64 3,.string a,.string b] w (IntEnd (betterF 3 a b) w):=by
 have c1:=fun wx=>r4valid_any 3 a wx ha
 have c2:=fun wx=>r4valid_any 3 b wx hb
 rw [h1] at c1;rw [h2] at c2
 obtain ⟨v,pv,rv,ov,ea,fv'⟩:=valid_v h1
 obtain ⟨u,pu,ru,ou,eb,fu⟩:=valid_v h2
 have C1:=Lib.hid c1;clear c1
 have C2:=Lib.hid c2;clear c2
 have hr:betterF 3 a b=cmpV u v:=by unfold betterF;rw [pv,pu];rfl
 have c3:=fun wx=>rcompare4_any u v wx fu fv'
 rw [← ea,← eb,← hr] at c3
 generalize betterF 3 a b=r at *
 have C3:=Lib.hid c3;clear c3 hr pv rv ov ea fv' pu ru ou eb fu ha hb h1 h2
 go_enter Tryz.func98,Tryz.ntmps98
 go_wp2_with fail
 have hq1:=C1.out w
 refine hq1.mono ?_
 clear hq1
 rintro e w1 ⟨rfl,hb⟩
 have HB1:=Lib.hid (hb);clear hb
 go_wp2_with fail
 have hq2:=C2.out w1
 refine hq2.mono ?_
 clear hq2
 rintro e w2 ⟨rfl,hb⟩
 have HB2:=Lib.hid (next_below HB1.out hb);clear hb
 go_wp2_with fail
 have hq3:=C3.out w2
 refine hq3.mono ?_
 clear hq3
 rintro e w3 ⟨rfl,hb⟩
 have HB3:=Lib.hid (next_below HB2.out hb);clear hb
 go_wp2_with fail
 go_ret
 exact ⟨rfl,HB3.out⟩
set_option maxHeartbeats 4000000 in
theorem r4better_n1 (k:Int) (a b:ByteArray) (w:World) (ha:a.size≤9223372036854775807) (h1:validF k a=false):Calls Tryz.prog 98 #[.int .i64 k,.string a,.string b] w (IntEnd (betterF k a b) w):=by
 have c1:=fun wx=>r4valid_any k a wx ha
 rw [h1] at c1
 rw [betterF_n1 h1]
 have C1:=Lib.hid c1;clear c1 h1 ha
 go_enter Tryz.func98,Tryz.ntmps98
 go_wp2_with fail
 have hq1:=C1.out w
 refine hq1.mono ?_
 clear hq1
 rintro e w1 ⟨rfl,hb⟩
 have HB1:=Lib.hid (hb);clear hb
 go_wp2_with fail
 go_ret
 exact ⟨rfl,HB1.out⟩
set_option maxHeartbeats 4000000 in
theorem r4better_n2 (k:Int) (a b:ByteArray) (w:World) (ha:a.size≤9223372036854775807) (hb:b.size≤9223372036854775807) (h1:validF k a=true) (h2:validF k b=false):Calls Tryz.prog 98 #[.int .i64 k,.string a,.string b] w (IntEnd (betterF k a b) w):=by
 have c1:=fun wx=>r4valid_any k a wx ha
 have c2:=fun wx=>r4valid_any k b wx hb
 rw [h1] at c1;rw [h2] at c2
 rw [betterF_n2 h2]
 have C1:=Lib.hid c1;clear c1 h1 ha
 have C2:=Lib.hid c2;clear c2 h2 hb
 go_enter Tryz.func98,Tryz.ntmps98
 go_wp2_with fail
 have hq1:=C1.out w
 refine hq1.mono ?_
 clear hq1
 rintro e w1 ⟨rfl,hb⟩
 have HB1:=Lib.hid (hb);clear hb
 go_wp2_with fail
 have hq2:=C2.out w1
 refine hq2.mono ?_
 clear hq2
 rintro e w2 ⟨rfl,hb⟩
 have HB2:=Lib.hid (next_below HB1.out hb);clear hb
 go_wp2_with fail
 go_ret
 exact ⟨rfl,HB2.out⟩
theorem r4better_any (k:Int) (a b:ByteArray) (w:World) (ha:a.size≤9223372036854775807) (hb:b.size≤9223372036854775807):Calls Tryz.prog 98 #[.int .i64 k,.string a,.string b] w (IntEnd (betterF k a b) w):=by
 cases h1:validF k a with
 | false=>exact r4better_n1 k a b w ha h1
 | true =>
  cases h2:validF k b with
  | false=>exact r4better_n2 k a b w ha hb h1 h2
  | true =>
   rcases kind_cases k with rfl | rfl | rfl | hk
   ·exact r4better_1 a b w ha hb h1 h2
   ·exact r4better_2 a b w ha hb h1 h2
   ·exact r4better_3 a b w ha hb h1 h2
   ·rw [validF_no hk] at h1;simp at h1
end Go.Proofs.YtjekapjbigfkbaaGreatDoor
namespace Go.Proofs.YtjekapjbigfkbaaGreatDoor
open Go Go.RowKit
set_option maxRecDepth 100000
end Go.Proofs.YtjekapjbigfkbaaGreatDoor

namespace Go.Proofs.YtjekapjbigfkbaaGreatDoor
open Go Go.RowKit Go.Deep
set_option maxRecDepth 100000
theorem gb_below {w w':World} (h:Below w.heap.size w w') (z:Option Nat):w.grownBy w' z:=⟨h.os,h.tape,h.output,h.size,fun q hq _=>h.block q hq⟩
def Rd (z:Option Nat) (w:World) (v:Value) (n:Nat) (f:Nat→Value):Prop :=
 (n=0∧∃ a cap,v=.slice a 0 cap∧cap≤maxLen)∨∃ b off cap,v=.slice (some ⟨b,off,none⟩) n cap∧(b < w.heap.size∧some b≠z)∧n≤cap∧cap≤maxLen∧∀ i,i < n→w.cell? ⟨b,off+i,none⟩=some (f i)
theorem Rd.kept {z:Option Nat} {w w':World} {v:Value} {n:Nat} {f:Nat→Value} (h:Rd z w v n f) (hb:w.grownBy w' z):Rd z w' v n f:=by
 rcases h with h | ⟨b,off,cap,hv,h1,h2,h3,h4⟩
 ·exact .inl h
 ·exact .inr ⟨b,off,cap,hv,⟨Nat.lt_of_lt_of_le h1.1 hb.size,h1.2⟩,h2,h3,fun i hi=>(hb.cell_far ⟨b,off+i,none⟩ h1.1 h1.2).trans (h4 i hi)⟩
theorem Rd.open {z:Option Nat} {w:World} {v:Value} {n:Nat} {f:Nat→Value} (h:Rd z w v n f):∃ a cap b off,v=.slice a n cap∧(0 < n→a=some ⟨b,off,none⟩)∧n≤cap∧cap≤maxLen ∧
  (0 < n→b < w.heap.size∧some b≠z)∧∀ i,i < n→w.cell? ⟨b,off+i,none⟩=some (f i):=by
 rcases h with ⟨rfl,a,cap,hv,hm⟩ | ⟨b,off,cap,hv,h1,h2,h3,h4⟩
 ·exact ⟨a,cap,0,0,hv,by simp,by simp,hm,by simp,by simp⟩
 ·exact ⟨_,cap,b,off,hv,fun _=>rfl,h2,h3,fun _=>h1,h4⟩
theorem Rd.congr {z:Option Nat} {w:World} {v:Value} {n:Nat} {f g:Nat→Value} (h:Rd z w v n f) (e:∀ i,i < n→f i=g i):Rd z w v n g:=by
 rcases h with h | ⟨b,off,cap,hv,h1,h2,h3,h4⟩
 ·exact .inl h
 ·exact .inr ⟨b,off,cap,hv,h1,h2,h3,fun i hi=>by rw [h4 i hi,e i hi]⟩
theorem Rd.shape {z:Option Nat} {w:World} {v:Value} {n:Nat} {f:Nat→Value} (h:Rd z w v n f):∃ a cap,v=.slice a n cap:=by
 obtain ⟨a,cap,_,_,hv,_⟩:=h.open;exact ⟨a,cap,hv⟩
theorem Rd.far {k:Nat} {z:Option Nat} {w:World} {v:Value} {n:Nat} {f:Nat→Value} (h:Rd z w v n f) (hk:w.heap.size≤k):Rd (some k) w v n f:=by
 rcases h with h | ⟨b,off,cap,hv,h1,h2⟩
 ·exact .inl h
 ·exact .inr ⟨b,off,cap,hv,⟨h1.1,by simp;omega⟩,h2⟩
def Ss (z:Option Nat) (w:World) (v:Value) (n:Nat) (X:Nat→ByteArray):Prop:=Rd z w v n fun i=>.string (X i)
def Mt (z:Option Nat) (w:World) (v:Value) (n:Nat) (L:Nat→Nat) (X:Nat→Nat→ByteArray):Prop:=∃ R,Rd z w v n R∧∀ i,i < n→Ss z w (R i) (L i) (X i)
section
variable {z:Option Nat} {w w':World} {v:Value} {n:Nat} {L L':Nat→Nat} {X X':Nat→Nat→ByteArray}
theorem Mt.kept (h:Mt z w v n L X) (hb:w.grownBy w' z):Mt z w' v n L X:=by
 obtain ⟨R,h1,h2⟩:=h
 exact ⟨R,h1.kept hb,fun i hi=>Rd.kept (h2 i hi) hb⟩
theorem Mt.far {k:Nat} (h:Mt z w v n L X) (hk:w.heap.size≤k):Mt (some k) w v n L X:=by
 obtain ⟨R,h1,h2⟩:=h
 exact ⟨R,h1.far hk,fun i hi=>Rd.far (h2 i hi) hk⟩
theorem Mt.congr (h:Mt z w v n L X) (hL:∀ i,i < n→L i=L' i) (hX:∀ i j,i < n→j < L i→X i j=X' i j):Mt z w v n L' X':=by
 obtain ⟨R,h1,h2⟩:=h
 exact ⟨R,h1,fun i hi=>by rw [← hL i hi];exact Rd.congr (h2 i hi) fun j hj=>by rw [hX i j hi hj]⟩
theorem Mt.open (h:Mt z w v n L X) :
  ∃ a cap b off,∃ (A:Nat→Option Addr) (C B O:Nat→Nat),v=.slice a n cap∧(0 < n→a=some ⟨b,off,none⟩)∧n≤cap∧cap≤maxLen∧(0 < n→b < w.heap.size∧some b≠z) ∧
   ∀ i,i < n→w.cell? ⟨b,off+i,none⟩=some (.slice (A i) (L i) (C i))∧L i≤C i∧C i≤maxLen∧(0 < L i→A i=some ⟨B i,O i,none⟩)∧(0 < L i→B i < w.heap.size∧some (B i)≠z)∧Ss z w (.slice (A i) (L i) (C i)) (L i) (X i) ∧
    ∀ j,j < L i→w.cell? ⟨B i,O i+j,none⟩=some (.string (X i j)):=by
 obtain ⟨R,h1,h2⟩:=h
 obtain ⟨a,cap,b,off,hv,ha,hc,hm,hb,hcell⟩:=h1.open
 classical
 have hall:∀ i,∃ t:Option Addr × Nat × Nat × Nat,i < n→R i=.slice t.1 (L i) t.2.1∧(0 < L i→t.1=some ⟨t.2.2.1,t.2.2.2,none⟩)∧L i≤t.2.1∧t.2.1≤maxLen∧(0 < L i→t.2.2.1 < w.heap.size∧some t.2.2.1≠z) ∧
   ∀ j,j < L i→w.cell? ⟨t.2.2.1,t.2.2.2+j,none⟩=some (.string (X i j)):=fun i=>by
  by_cases hi:i < n
  ·obtain ⟨a',c',b',o',k1,k2,k3,k4,k5,k6⟩:=Rd.open (h2 i hi)
   exact ⟨(a',c',b',o'),fun _=>⟨k1,k2,k3,k4,k5,k6⟩⟩
  ·exact ⟨(none,0,0,0),fun h=>absurd h hi⟩
 refine ⟨a,cap,b,off,fun i=>(Classical.choose (hall i)).1,fun i=>(Classical.choose (hall i)).2.1,fun i=>(Classical.choose (hall i)).2.2.1,fun i=>(Classical.choose (hall i)).2.2.2,hv,ha,hc,hm,hb,fun i hi=>?_⟩
 obtain ⟨k1,k2,k3,k4,k5,k6⟩:=Classical.choose_spec (hall i) hi
 refine ⟨by rw [hcell i hi,k1],k3,k4,k2,k5,?_,k6⟩
 rw [← k1];exact h2 i hi
end
def strs (n:Nat) (X:Nat→ByteArray):List Value:=(List.range n).map fun j=>.string (X j)
theorem strs_len (n:Nat) (X:Nat→ByteArray):(strs n X).length=n:=by simp [strs]
theorem strs_get (n:Nat) (X:Nat→ByteArray) (i:Nat) (h:i < n):(strs n X)[i]?=some (.string (X i)):=by simp [strs,h]
theorem strs_snoc (n:Nat) (X:Nat→ByteArray):strs n X++[.string (X n)]=strs (n+1) X:=by simp [strs,List.range_succ]
theorem strs_congr {n:Nat} {X Y:Nat→ByteArray} (h:∀ i,i < n→X i=Y i):strs n X=strs n Y:=by
 unfold strs;exact List.map_congr_left fun i hi=>by rw [h i (List.mem_range.1 hi)]
def OwS (w:World) (B:Nat) (e:TypeId) (v:Value) (n:Nat) (X:Nat→ByteArray):Prop:=w.ownsRow B e 1 v n (strs n X)
theorem OwS.congr {w:World} {B:Nat} {e:TypeId} {v:Value} {n:Nat} {X Y:Nat→ByteArray} (h:OwS w B e v n X) (hx:∀ i,i < n→X i=Y i):OwS w B e v n Y:=by
 unfold OwS;rw [← strs_congr hx];exact h
theorem OwS.kept {w w':World} {B:Nat} {e:TypeId} {v:Value} {n:Nat} {X:Nat→ByteArray} {z:Option Nat} (h:OwS w B e v n X) (hb:w.grownBy w' z) (hz:∀ k,z=some k→k < B):OwS w' B e v n X :=
 World.ownsRow.kept h hb (by
  cases hv:v.ownBlock with
  | none=>exact .inl rfl
  | some k=>exact .inr (fun e=>by have:=(World.ownsRow.lt h k hv).1;have:=hz k e.symm;omega))
theorem one_str (x:ByteArray):∀ u ∈ [Value.string x],u.oneCell'=true:=by intro u hu;simp at hu;subst hu;rfl
theorem OwS.set {w:World} {B:Nat} {e:TypeId} {g n cap:Nat} {X:Nat→ByteArray} (h:OwS w B e (.slice (some ⟨g,0,none⟩) n cap) n X) {i:Nat} (hi:i < n) (x:ByteArray) :
  OwS (w.setCell ⟨g,i,none⟩ (.string x)) B e (.slice (some ⟨g,0,none⟩) n cap) n (fun j=>if j=i then x else X j):=by
 refine ⟨by rw [strs_len,Nat.mul_one],?_⟩
 rcases h.2 with ⟨hv,_⟩ | ⟨g',cap',cur,hv,h0,hgg,h1,h2,h3,h4⟩
 ·cases hv
 ·cases hv
  refine .inr ⟨g,cap,cur.setIfInBounds i (.string x),rfl,h0,by simp [World.setCell,Array.getElem?_modify,hgg],h1,h2,by simpa using h3,?_⟩
  rw [Nat.mul_one] at h3 h4 ⊢
  refine List.ext_getElem? fun j=>?_
  by_cases hj:j < n
  ·rw [strs_get _ _ _ hj,List.getElem?_take_of_lt hj,Array.getElem?_toList,Array.getElem?_setIfInBounds]
   by_cases e:i=j
   ·subst e;rw [if_pos rfl,if_pos (by omega),if_pos rfl]
   ·rw [if_neg e,if_neg (fun h=>e h.symm)]
    have:=strs_get n X j hj
    rw [← h4,List.getElem?_take_of_lt hj,Array.getElem?_toList] at this
    exact this
  ·rw [List.getElem?_eq_none (by rw [List.length_take];omega),List.getElem?_eq_none (by rw [strs_len];omega)]
structure Gr (B:Nat) (z:Option Nat) (w w':World):Prop where
 os:w'.os=w.os
 tape:w'.tape=w.tape
 output:w'.output=w.output
 size:w.heap.size≤w'.heap.size
 block:∀ q,q < B→some q≠z→w'.heap[q]?=w.heap[q]?
namespace Gr
variable {B:Nat} {z:Option Nat} {w w' w2:World}
theorem refl (B:Nat) (z:Option Nat) (w:World):Gr B z w w:=⟨rfl,rfl,rfl,Nat.le_refl _,fun _ _ _=>rfl⟩
theorem trans (h:Gr B z w w') (k:Gr B z w' w2):Gr B z w w2:=⟨k.os.trans h.os,k.tape.trans h.tape,k.output.trans h.output,Nat.le_trans h.size k.size,fun q hq hz=>(k.block q hq hz).trans (h.block q hq hz)⟩
theorem of (h:w.grownBy w' z) (hB:B≤w.heap.size):Gr B z w w':=⟨h.os,h.tape,h.output,h.size,fun q hq hz=>h.block q (by omega) hz⟩
theorem mono {B':Nat} (h:Gr B z w w') (hB:B'≤B):Gr B' z w w':=⟨h.os,h.tape,h.output,h.size,fun q hq hz=>h.block q (by omega) hz⟩
theorem set (h:Gr B z w w') {p:Addr} (hp:some p.block=z∨B≤p.block) (v:Value):Gr B z w (w'.setCell p v) :=
 h.trans ⟨rfl,rfl,rfl,by rw [nblk_setCell];exact Nat.le_refl _,fun q hq hz=>blk_setCell_other _ _ _ _ (by
  rcases hp with e | e
  ·intro e2;exact hz (by rw [e2,e])
  ·omega)⟩
theorem drewN (h:Gr B z w w') (n:Nat):Gr B z w (w'.drewN n):=h.trans ⟨rfl,rfl,rfl,Nat.le_refl _,fun _ _ _=>rfl⟩
end Gr
structure OM (w:World) (Z:Nat→Prop) (B:Nat) (eR eT:TypeId) (g n:Nat) (R:Nat→Value) (L:Nat→Nat) (X:Nat→Nat→ByteArray):Prop where
 top:w.rowIs g eT n R
 base:B≤g
 zg:¬ Z g
 zlt:∀ b,Z b→b < w.heap.size
 row:∀ i,i < n→OwS w B eR (R i) (L i) (X i)
 far:∀ i,i < n→∀ b,(R i).ownBlock=some b→b≠g∧¬ Z b
 apart:∀ i j,i < n→j < n→i≠j→∀ b,(R i).ownBlock=some b→(R j).ownBlock≠some b
namespace OM
variable {w w':World} {Z:Nat→Prop} {B:Nat} {eR eT:TypeId} {g n:Nat} {R:Nat→Value} {L:Nat→Nat} {X:Nat→Nat→ByteArray}
theorem kept {z:Option Nat} (h:OM w Z B eR eT g n R L X) (hb:w.grownBy w' z) (hz:∀ k,z=some k→k < B):OM w' Z B eR eT g n R L X :=
 ⟨h.top.of_block (hb.block g h.top.lt (fun e=>by have:=hz g e.symm;have:=h.base;omega)),h.base,h.zg,fun b hb'=>Nat.lt_of_lt_of_le (h.zlt b hb') hb.size,fun i hi=>(h.row i hi).kept hb hz,h.far,h.apart⟩
theorem congr {X':Nat→Nat→ByteArray} (h:OM w Z B eR eT g n R L X) (hx:∀ i j,i < n→j < L i→X i j=X' i j):OM w Z B eR eT g n R L X' :=
 ⟨h.top,h.base,h.zg,h.zlt,fun i hi=>(h.row i hi).congr fun j hj=>hx i j hi hj,h.far,h.apart⟩
theorem frozen (h:OM w Z B eR eT g n R L X) (i:Nat):w.frozen? ⟨g,i,none⟩=false:=h.top.frozen i
theorem lt (h:OM w Z B eR eT g n R L X):g < w.heap.size:=h.top.lt
theorem rowLt (h:OM w Z B eR eT g n R L X) {i:Nat} (hi:i < n):∀ k,(R i).ownBlock=some k→B≤k∧k < w.heap.size:=World.ownsRow.lt (h.row i hi)
theorem stored (h:OM w Z B eR eT g n R L X) {i j b cap:Nat} (hi:i < n) (hj:j < L i) (hR:R i=.slice (some ⟨b,0,none⟩) (L i) cap) (x:ByteArray) :
  OM (w.setCell ⟨b,j,none⟩ (.string x)) Z B eR eT g n R L (fun k l=>if k=i∧l=j then x else X k l):=by
 have hbg:=(h.far i hi b (by rw [hR];rfl)).1
 refine ⟨h.top.setOther (by show g≠b;exact fun e=>hbg e.symm) _,h.base,h.zg,fun b hb=>by rw [nblk_setCell];exact h.zlt b hb,fun k hk=>?_,h.far,h.apart⟩
 by_cases e:k=i
 ·subst e
  have:=h.row k hk
  rw [hR] at this ⊢
  exact (this.set hj x).congr fun l _=>by simp
 ·refine OwS.congr (World.ownsRow.kept (h.row k hk) ⟨rfl,rfl,rfl,by simp,fun q _ hq=>blk_setCell_other _ _ _ _ (by show q≠b;intro e;exact hq (by rw [e]))⟩ (row:=some b) (by
   cases hb:(R k).ownBlock with
   | none=>exact .inl rfl
   | some b'=>exact .inr (fun e2=>h.apart k i hk hi e b' hb (by rw [hR,Value.ownBlock];exact e2.symm)))) fun l _=>by simp [e]
end OM
end Go.Proofs.YtjekapjbigfkbaaGreatDoor
namespace Go.Proofs.YtjekapjbigfkbaaGreatDoor
open Go Go.RowKit
set_option maxRecDepth 100000
def Is (k:KK) (e:Nat) (s:ByteArray) (x:RK k):Prop:=s.size≤100000∧(e=0→s=vtxt x.1∧fitV x.1)
theorem Is.size {k:KK} {e:Nat} {s:ByteArray} {x:RK k} (h:Is k e s x):s.size≤100000:=h.1
theorem Is.mono {k:KK} {e e':Nat} {s:ByteArray} {x:RK k} (h:Is k e s x) (he:e'=0→e=0):Is k e' s x:=⟨h.1,fun h0=>h.2 (he h0)⟩
theorem zero_fit (k:KK):fitV (CSR.zero:RK k).1:=(szV_zero k.1 (k:=1) (by omega)).fit (by omega)
theorem one_fit (k:KK):fitV (CSR.one:RK k).1:=(szV_one k.1 (k:=1) (by omega)).fit (by omega)
theorem Is.zero (k:KK) (e:Nat):Is k e (zeroF k.1) CSR.zero:=⟨zeroF_size k.1,fun _=>⟨zeroF_eq k.2,zero_fit k⟩⟩
theorem Is.one (k:KK) (e:Nat):Is k e (oneF k.1) CSR.one:=⟨oneF_size k.1,fun _=>⟨oneF_eq k.2,one_fit k⟩⟩
theorem Is.eq {k:KK} {s t:ByteArray} {x y:RK k} (h:Is k 0 s x) (h':Is k 0 t y) (e:x=y):s=t:=by
 rw [(h.2 rfl).1,(h'.2 rfl).1,e]
def TabB (B:Nat) (w:World):Prop:=∀ w',Below B w w'→Tab w'
theorem TabB.tab {B:Nat} {w:World} (h:TabB B w):Tab w:=h w (Below.refl _ _)
theorem TabB.of {w:World} (h:Tab w):TabB w.heap.size w:=fun _ hb=>h.below hb (Nat.le_refl _)
theorem TabB.kept {B:Nat} {w w':World} {z:Option Nat} (h:TabB B w) (hg:w.grownBy w' z) (hz:∀ k,z=some k→B≤k) (hB:B≤w.heap.size):TabB B w':=fun w2 hb =>
 h w2 (Below.trans ⟨hg.os,hg.tape,hg.output,hg.size,fun q hq=>hg.block q (by omega) (fun e=>by have:=hz q e.symm;omega)⟩ hb)
end Go.Proofs.YtjekapjbigfkbaaGreatDoor
namespace Go.Proofs.YtjekapjbigfkbaaGreatDoor
open Go Go.RowKit
set_option maxRecDepth 100000
end Go.Proofs.YtjekapjbigfkbaaGreatDoor
