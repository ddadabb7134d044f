/- Parts of a proof: MS2 SemF SemH SemG MX. -/
import Derived.Test.YtjekapjbigfkbaaGreatDoorT04
import Derived.Test.YtjekapjbigfkbaaGreatDoorT00
import Derived.LoopN
namespace Go.Proofs.YtjekapjbigfkbaaGreatDoor
set_option maxRecDepth 100000
set_option linter.unusedSimpArgs false
set_option linter.unusedVariables false
set_option linter.unusedSectionVars false
set_option maxHeartbeats 16000000
open Go Tryz
section
open Go.RowKit
theorem z9p:txt 0=⟨#[48]⟩:=((z3f y9n).1).symm
theorem x4m:fitQ 0:=(z3f y9n).2
theorem u2p:prs ⟨#[49]⟩=some 1:=by
 have:txt 1=⟨#[49]⟩:=by unfold txt txtL;rw[show negQ 1=false from rfl,show (1:Rat).num.natAbs=1 from rfl,show (1:Rat).den=1 from rfl,z4i];rfl
 rw[<- this];exact z1e (by unfold fitQ;rw[show (1:Rat).num.natAbs=1 from rfl,show (1:Rat).den=1 from rfl,z4i];decide)
theorem v0u:txt 1=⟨#[49]⟩:=((z3f u2p).1).symm
def natB (a:ByteArray):Bool:=match prs a with|some q=>decide (0<=q)|none=>false
def posB (a:ByteArray):Bool:=match prs a with|some q=>decide (0<q)|none=>false
theorem z9g {a:ByteArray} {q:Rat} (h:prs a=some q):z3q a ⟨#[48]⟩=cmpQ q 0:=by unfold z3q;rw[h,y9n]
theorem v4v (a:ByteArray):z0r 1 a=(prs a).isSome:=by
 unfold z0r rdV;by_cases d:a=infS
 ·rw[if_pos d,d,y0z];rfl
 rw[if_neg d];by_cases c:a=lowS
 ·rw[if_pos c,c,y2x];rfl
 rw[if_neg c];cases prs a with
 | none=>rfl
 | some q=>simp[wtV]
theorem y7w {k:Int} (g:k=2\/k=3) (a:ByteArray):z0r k a=posB a:=by
 unfold z0r rdV posB;by_cases d:a=infS
 ·rw[if_pos d,d,y0z];rfl
 rw[if_neg d];by_cases c:a=lowS
 ·rw[if_pos c,c,y2x];rfl
 rw[if_neg c];cases prs a with
 | none=>rfl
 | some q =>
  show decide (wtV k (.fin q))=decide (0<q);rw[decide_eq_decide]
  constructor
  ·intro h;rcases h with h|h
   ·omega
   exact h.2
  intro h;exact .inr ⟨g,h⟩
theorem z6d {k:Int} (c:k=1\/k=2\/k=3):z0f k infS=true:=by
 have:vprs k infS=some .inf:=z5i.2 ⟨by simp[rdV],by unfold okV;omega⟩;unfold z0f;rw[this];rfl
theorem y5g:z0f 1 lowS=true:=by
 have:vprs 1 lowS=some .low:=z5i.2 ⟨by simp[rdV,show lowS≠infS by decide],rfl⟩;unfold z0f;rw[this];rfl
theorem x5f {a:ByteArray} (d:a≠infS) (c:a≠lowS):z0f 1 a=(prs a).isSome:=by
 unfold z0f vprs rdV;rw[if_neg d,if_neg c];cases prs a with
 | none=>rfl
 | some q=>simp[okV]
theorem y1f {k:Int} (d:k=2\/k=3) {a:ByteArray} (g:a≠infS):z0f k a=natB a:=by
 unfold z0f vprs rdV natB;rw[if_neg g];by_cases c:a=lowS
 ·rw[if_pos c,c,y2x];have:decide (okV k .low)=false:=by rw[decide_eq_false_iff_not];intro h;change k=1 at h;omega
  simp[Option.filter,this]
 rw[if_neg c];cases prs a with
 | none=>rfl
 | some q =>
  have:decide (okV k (.fin q))=decide (0<=q):=by
   rw[decide_eq_decide]
   constructor
   ·intro h;rcases h with h|h
    ·omega
    exact h.2
   intro h;exact .inr ⟨d,h⟩
  simp only[Option.map_some,Option.filter,this];cases decide (0<=q)<;>rfl
def BoolE (b:Bool) (w:World) (e:Ending) (w':World):Prop:=e=.returned (.bool b)/\Below w.heap.size w w'
theorem y3q (a:ByteArray) (w:World) (c:a.size<=9223372036854775807) (d:Tab w):Calls prog 91 #[.string a] w (BoolE (prs a).isSome w):=z9v a w c d
theorem y5i (a:ByteArray) (w:World) (i:a.size<=9223372036854775807) (j:Tab w):Calls prog 160 #[.string a] w (BoolE (natB a) w):=by
 have c1:=z9v a w i j;have c2:=fun p (h:Below w.heap.size w p)=>y0c a ⟨#[48]⟩ p i (by decide) (j.below h (Nat.le_refl _));cases d:prs a with
 | none =>
  have g:natB a=false:=by unfold natB;rw[d]
  rw[g];rw[d] at c1;simp only[Option.isSome] at c1;have k:=qh c1;clear c1 c2 d g i j
  go_enter func160,ntmps160
  go_wp2_with fail
  refine k.out.mono ?_;rintro e u ⟨rfl,hb⟩;have c:=qh hb;clear hb
  go_wp2_with fail
  go_ret;exact⟨rfl,c.out⟩
 | some q =>
  have g:natB a=decide (0<=q):=by unfold natB;rw[d]
  rw[z9g d] at c2;rw[g];rw[d] at c1;simp only[Option.isSome] at c1;have k:=qh c1;clear c1;have o:(decide (0<=q)=decide (0<=cmpQ q 0)):=by
   rcases z1c q 0 with ⟨h,e⟩|⟨h,e⟩|⟨h,e⟩<;>rw[e]
   ·rw[decide_eq_decide];simp;exact Rat.not_le.2 h
   ·subst h;rfl
   rw[decide_eq_decide];simp;exact Rat.le_of_lt h
  rw[o];have r:cmpQ q 0=-1\/cmpQ q 0=0\/cmpQ q 0=1:=by rcases z1c q 0 with ⟨h,e⟩|⟨h,e⟩|⟨h,e⟩<;>simp[e]
  generalize cmpQ q 0=z at *;have s:=qh c2;clear c2 d g i j o
  rcases r with rfl|rfl|rfl
  all_goals
   go_enter func160,ntmps160
   go_wp2_with fail
   refine k.out.mono ?_;rintro e u ⟨rfl,hb⟩;have c:=qh hb;clear hb
   go_wp2_with fail
   refine(s.out _ c.out).mono ?_;rintro e v ⟨rfl,hb⟩;have l:=qh (c.out.trans (hb.mono c.out.size));clear hb
   go_wp2_with fail
   go_ret;exact⟨rfl,l.out⟩
theorem y3r (a:ByteArray) (w:World) (i:a.size<=9223372036854775807) (j:Tab w):Calls prog 161 #[.string a] w (BoolE (posB a) w):=by
 have c1:=z9v a w i j;have c2:=fun p (h:Below w.heap.size w p)=>y0c a ⟨#[48]⟩ p i (by decide) (j.below h (Nat.le_refl _));cases d:prs a with
 | none =>
  have g:posB a=false:=by unfold posB;rw[d]
  rw[g];rw[d] at c1;simp only[Option.isSome] at c1;have k:=qh c1;clear c1 c2 d g i j
  go_enter func161,ntmps161
  go_wp2_with fail
  refine k.out.mono ?_;rintro e u ⟨rfl,hb⟩;have c:=qh hb;clear hb
  go_wp2_with fail
  go_ret;exact⟨rfl,c.out⟩
 | some q =>
  have g:posB a=decide (0<q):=by unfold posB;rw[d]
  rw[z9g d] at c2;rw[g];rw[d] at c1;simp only[Option.isSome] at c1;have k:=qh c1;clear c1;have o:(decide (0<q)=decide (0<cmpQ q 0)):=by
   rcases z1c q 0 with ⟨h,e⟩|⟨h,e⟩|⟨h,e⟩<;>rw[e]
   ·rw[decide_eq_decide];simp;exact Rat.not_lt.2 (Rat.le_of_lt h)
   ·subst h;rfl
   rw[decide_eq_decide];simp;exact h
  rw[o];have r:cmpQ q 0=-1\/cmpQ q 0=0\/cmpQ q 0=1:=by rcases z1c q 0 with ⟨h,e⟩|⟨h,e⟩|⟨h,e⟩<;>simp[e]
  generalize cmpQ q 0=z at *;have s:=qh c2;clear c2 d g i j o
  rcases r with rfl|rfl|rfl
  all_goals
   go_enter func161,ntmps161
   go_wp2_with fail
   refine k.out.mono ?_;rintro e u ⟨rfl,hb⟩;have c:=qh hb;clear hb
   go_wp2_with fail
   refine(s.out _ c.out).mono ?_;rintro e v ⟨rfl,hb⟩;have l:=qh (c.out.trans (hb.mono c.out.size));clear hb
   go_wp2_with fail
   go_ret;exact⟨rfl,l.out⟩
theorem z9y (a:ByteArray) (w:World) (p:a.size<=9223372036854775807) (r:Tab w):Calls prog 74 #[.agg ring1,.string a] w (BoolE (z0f 1 a) w):=by
 have i:Below w.heap.size w (w.alloc (.cells ring1 116)):=(Below.refl _ _).alloc (Nat.le_refl _) _;have c1:=fun o (h:Below w.heap.size w o)=>y3q a o p (r.below h (Nat.le_refl _));have s:=qh c1;clear c1 p r;have c:=qh i;clear i;unfold ring1 at c ⊢;by_cases d:a=infS
 ·have u:(a.toList==[105,110,102])=true:=by rw[d,z1u];rfl
  have j:z0f 1 a=true:=by rw[d];exact z6d (by omega)
  rw[j];clear j d
  go_enter func74,ntmps74
  go_wp2_with fail
  go_ret;exact⟨rfl,c.out⟩
 have u:(a.toList==[105,110,102])=false:=z2k (l:=[105,110,102]) d;by_cases g:a=lowS
 ·have e2:(a.toList==[45,105,110,102])=true:=by rw[g,z2n];rfl
  have j:z0f 1 a=true:=by rw[g];exact y5g
  rw[j];clear j d g
  go_enter func74,ntmps74
  go_wp2_with fail
  go_ret;exact⟨rfl,c.out⟩
 have e2:(a.toList==[45,105,110,102])=false:=z2k (l:=[45,105,110,102]) g;rw[x5f d g];clear d g
 go_enter func74,ntmps74
 go_wp2_with fail
 refine(s.out _ c.out).mono ?_;rintro e v ⟨rfl,hb⟩;have k:=qh (z0a c.out hb);clear hb
 go_wp2_with fail
 go_ret;exact⟨rfl,k.out⟩
theorem z9u (a:ByteArray) (w:World) (j:a.size<=9223372036854775807) (p:Tab w):Calls prog 74 #[.agg ring2,.string a] w (BoolE (z0f 2 a) w):=by
 have g:Below w.heap.size w (w.alloc (.cells ring2 116)):=(Below.refl _ _).alloc (Nat.le_refl _) _;have c1:=fun k (h:Below w.heap.size w k)=>y5i a k j (p.below h (Nat.le_refl _));have r:=qh c1;clear c1 j p;have c:=qh g;clear g;unfold ring2 at c ⊢;by_cases d:a=infS
 ·have s:(a.toList==[105,110,102])=true:=by rw[d,z1u];rfl
  have o:z0f 2 a=true:=by rw[d];exact z6d (by omega)
  rw[o];clear o d
  go_enter func74,ntmps74
  go_wp2_with fail
  go_ret;exact⟨rfl,c.out⟩
 have s:(a.toList==[105,110,102])=false:=z2k (l:=[105,110,102]) d;rw[y1f (by omega) d];clear d;cases e2:(a.toList==[45,105,110,102])
 all_goals
  go_enter func74,ntmps74
  go_wp2_with fail
  refine(r.out _ c.out).mono ?_;rintro e u ⟨rfl,hb⟩;have i:=qh (z0a c.out hb);clear hb
  go_wp2_with fail
  go_ret;exact⟨rfl,i.out⟩
theorem y0d (a:ByteArray) (w:World) (j:a.size<=9223372036854775807) (p:Tab w):Calls prog 74 #[.agg ring3,.string a] w (BoolE (z0f 3 a) w):=by
 have g:Below w.heap.size w (w.alloc (.cells ring3 116)):=(Below.refl _ _).alloc (Nat.le_refl _) _;have c1:=fun k (h:Below w.heap.size w k)=>y5i a k j (p.below h (Nat.le_refl _));have r:=qh c1;clear c1 j p;have c:=qh g;clear g;unfold ring3 at c ⊢;by_cases d:a=infS
 ·have s:(a.toList==[105,110,102])=true:=by rw[d,z1u];rfl
  have o:z0f 3 a=true:=by rw[d];exact z6d (by omega)
  rw[o];clear o d
  go_enter func74,ntmps74
  go_wp2_with fail
  go_ret;exact⟨rfl,c.out⟩
 have s:(a.toList==[105,110,102])=false:=z2k (l:=[105,110,102]) d;rw[y1f (by omega) d];clear d;cases e2:(a.toList==[45,105,110,102])
 all_goals
  go_enter func74,ntmps74
  go_wp2_with fail
  refine(r.out _ c.out).mono ?_;rintro e u ⟨rfl,hb⟩;have i:=qh (z0a c.out hb);clear hb
  go_wp2_with fail
  go_ret;exact⟨rfl,i.out⟩
theorem cell_kept {w g:World} {c:Array Value} {t:TypeId} (h:Below (w.alloc (.cells c t)).heap.size (w.alloc (.cells c t)) g) (i:Nat):g.cell? ⟨w.heap.size,i,none⟩=c[i]?:=by
 have d:w.heap.size<(w.alloc (.cells c t)).heap.size:=by simp
 exact(h.cell (p:=⟨w.heap.size,i,none⟩) d).trans (cell_of_row _ _ i c t (0,0) (heap_alloc_last w _))
theorem x4d (v u:V) (w:World) (A:fitV v) (p:fitV u) (r:Tab w):Calls prog 155 #[.agg ring1,.string (vtxt v),.string (vtxt u)] w (PairEnd (limV (z1t 1 v u)) w):=by
 have i:Below w.heap.size w (w.alloc (.cells ring1 116)):=(Below.refl _ _).alloc (Nat.le_refl _) _;have c1:=fun l (h:Below w.heap.size w l)=>y3s v u l A p (r.below h (Nat.le_refl _));have o:z1t 1 v u=if 0<cmpV v u then u else v:=by unfold z1t;rfl
 rw[o];have s:limV (if 0<cmpV v u then u else v)=(if 0<cmpV v u then vtxt u else vtxt v,0):=by split<;>(rw[z8c];assumption)
 rw[s];have C:=y7y v u;generalize cmpV v u=z at *;have j:=qh c1;clear c1 r o s;have c:=qh i;clear i;unfold ring1 at c ⊢;generalize vtxt v=a at *;generalize vtxt u=b at *;clear A p
 rcases C with rfl|rfl|rfl
 ·change Calls _ _ _ _ (PairEnd (a,0) w)
  go_enter func155,ntmps155
  go_wp2_with fail
  refine(j.out _ c.out).mono ?_;rintro e B ⟨rfl,hb⟩;have d:=qh hb;have g:=qh (z0a c.out hb);clear hb;have k:=cell_kept d.out 2
  go_wp2_with fail
  go_ret2;exact⟨rfl,g.out⟩
 ·change Calls _ _ _ _ (PairEnd (a,0) w)
  go_enter func155,ntmps155
  go_wp2_with fail
  refine(j.out _ c.out).mono ?_;rintro e B ⟨rfl,hb⟩;have d:=qh hb;have g:=qh (z0a c.out hb);clear hb;have k:=cell_kept d.out 2
  go_wp2_with fail
  go_ret2;exact⟨rfl,g.out⟩
 change Calls _ _ _ _ (PairEnd (b,0) w)
 go_enter func155,ntmps155
 go_wp2_with fail
 refine(j.out _ c.out).mono ?_;rintro e B ⟨rfl,hb⟩;have d:=qh hb;have g:=qh (z0a c.out hb);clear hb;have k:=cell_kept d.out 2
 go_wp2_with fail
 go_ret2;exact⟨rfl,g.out⟩
theorem x4k (v u:V) (w:World) (A:fitV v) (p:fitV u) (r:Tab w):Calls prog 155 #[.agg ring3,.string (vtxt v),.string (vtxt u)] w (PairEnd (limV (z1t 3 v u)) w):=by
 have i:Below w.heap.size w (w.alloc (.cells ring3 116)):=(Below.refl _ _).alloc (Nat.le_refl _) _;have c1:=fun l (h:Below w.heap.size w l)=>y3s v u l A p (r.below h (Nat.le_refl _));have o:z1t 3 v u=if cmpV v u<0 then u else v:=by unfold z1t;rfl
 rw[o];have s:limV (if cmpV v u<0 then u else v)=(if cmpV v u<0 then vtxt u else vtxt v,0):=by split<;>(rw[z8c];assumption)
 rw[s];have C:=y7y v u;generalize cmpV v u=z at *;have j:=qh c1;clear c1 r o s;have c:=qh i;clear i;unfold ring3 at c ⊢;generalize vtxt v=a at *;generalize vtxt u=b at *;clear A p
 rcases C with rfl|rfl|rfl
 ·change Calls _ _ _ _ (PairEnd (b,0) w)
  go_enter func155,ntmps155
  go_wp2_with fail
  refine(j.out _ c.out).mono ?_;rintro e B ⟨rfl,hb⟩;have d:=qh hb;have g:=qh (z0a c.out hb);clear hb;have k:=cell_kept d.out 2
  go_wp2_with fail
  go_ret2;exact⟨rfl,g.out⟩
 ·change Calls _ _ _ _ (PairEnd (a,0) w)
  go_enter func155,ntmps155
  go_wp2_with fail
  refine(j.out _ c.out).mono ?_;rintro e B ⟨rfl,hb⟩;have d:=qh hb;have g:=qh (z0a c.out hb);clear hb;have k:=cell_kept d.out 2
  go_wp2_with fail
  go_ret2;exact⟨rfl,g.out⟩
 change Calls _ _ _ _ (PairEnd (a,0) w)
 go_enter func155,ntmps155
 go_wp2_with fail
 refine(j.out _ c.out).mono ?_;rintro e B ⟨rfl,hb⟩;have d:=qh hb;have g:=qh (z0a c.out hb);clear hb;have k:=cell_kept d.out 2
 go_wp2_with fail
 go_ret2;exact⟨rfl,g.out⟩
theorem u2n (v u:V) (w:World) (j:fitV v) (i:fitV u) (lv:v≠.low) (lu:u≠.low) (k:Tab w):Calls prog 157 #[.agg ring2,.string (vtxt v),.string (vtxt u)] w (PairEnd (limV (z1t 2 v u)) w):=by
 have d:Below w.heap.size w (w.alloc (.cells ring2 116)):=(Below.refl _ _).alloc (Nat.le_refl _) _;rw[z7m];cases v with
 | low=>exact absurd rfl lv
 | inf =>
  have g:limV (addV .inf u)=(infS,0):=by cases u<;>rfl
  rw[g];have s:((vtxt .inf).toList==[105,110,102])=true:=by show (infS.toList==_)=_;rw[z1u];rfl
  generalize vtxt .inf=a at *;generalize vtxt u=b at *;have c:=qh d;clear d j i lv lu k g;unfold ring2 at c ⊢;unfold infS
  go_enter func157,ntmps157
  go_wp2_with fail
  go_ret2;exact⟨rfl,c.out⟩
 | fin x =>
  have s:((vtxt (.fin x)).toList==[105,110,102])=false:=z7n j;cases u with
  | low=>exact absurd rfl lu
  | inf =>
   have g:limV (addV (.fin x) .inf)=(infS,0):=rfl;rw[g];have e2:((vtxt .inf).toList==[105,110,102])=true:=by show (infS.toList==_)=_;rw[z1u];rfl
   generalize vtxt .inf=b at *;generalize vtxt (.fin x)=a at *;have c:=qh d;clear d j i lv lu k g;unfold ring2 at c ⊢;unfold infS
   go_enter func157,ntmps157
   go_wp2_with fail
   go_ret2;exact⟨rfl,c.out⟩
  | fin y =>
   have e2:((vtxt (.fin y)).toList==[105,110,102])=false:=z7n i;have l:=z3k j;have o:=z3k i;have c1:=fun r (h:Below w.heap.size w r)=>y9j (txt x) (txt y) r (by omega) (by omega) (k.below h (Nat.le_refl _));have g:z2m (txt x) (txt y)=limV (addV (.fin x) (.fin y)):=by unfold z2m;rw[z1e j,z1e i];rfl
   rw[g] at c1;change Calls _ _ #[_,.string (txt x),.string (txt y)] _ _;change ((txt x).toList==_)=_ at s;change ((txt y).toList==_)=_ at e2;generalize limV (addV (.fin x) (.fin y))=lr at *;obtain⟨A,B⟩:=lr;generalize txt x=a at *;generalize txt y=b at *;have z:=qh c1;clear c1;have c:=qh d;clear d j i lv lu k g l o;unfold ring2 at c ⊢
   go_enter func157,ntmps157
   go_wp2_with fail
   refine(z.out _ c.out).mono ?_;rintro e C ⟨rfl,hb⟩;have p:=qh (z0a c.out hb);clear hb
   go_wp2_with fail
   go_ret2;exact⟨rfl,p.out⟩
end
section
open Go.RowKit
theorem u0f {k:Int} (c:k<1\/3<k) (a:ByteArray):vprs k a=none:=by
 cases h:vprs k a with
 | none=>rfl
 | some v=>have:=z4h (z5i.1 h).2;omega
theorem z6h {k:Int} (c:k<1\/3<k) (a:ByteArray):z0f k a=false:=by unfold z0f;rw[u0f c];rfl
theorem v1x {k:Int} {v:V} (h:wtV k v):k=1\/k=2\/k=3:=by cases v<;>simp only[wtV] at h<;>omega
theorem y7u {k:Int} (c:k<1\/3<k) (a:ByteArray):z0r k a=false:=by
 unfold z0r;cases rdV a with
 | none=>rfl
 | some v=>show decide (wtV k v)=false;rw[decide_eq_false_iff_not];intro h;have:=v1x h;omega
theorem y5r {k:Int} (c:k<1\/3<k):z8i k=false:=by unfold z8i;rw[Bool.and_eq_false_iff];simp;omega
theorem z1x (k:Int):k=1\/k=2\/k=3\/(k<1\/3<k):=by omega
theorem z1j {k:Int} {a:ByteArray} (h:z0f k a=true):∃ v,vprs k a=some v/\rdV a=some v/\okV k v/\a=vtxt v/\fitV v:=by
 unfold z0f at h;obtain⟨v,c⟩:=Option.isSome_iff_exists.1 h;obtain⟨d,g⟩:=z5i.1 c;exact⟨v,c,d,g,z8f d⟩
theorem y3e {k:Int} {a:ByteArray} (h:z0f k a=false):vprs k a=none:=by
 unfold z0f at h;cases c:vprs k a with
 | none=>rfl
 | some v=>rw[c] at h;simp at h
theorem y2e {k:Int} {a b:ByteArray} (h:z0f k a=false):z1r k a b=(⟨#[]⟩,1):=by unfold z1r;rw[y3e h];rfl
theorem y4a {k:Int} {a b:ByteArray} (h:z0f k b=false):z1r k a b=(⟨#[]⟩,1):=by unfold z1r;rw[y3e h];cases vprs k a<;>rfl
theorem z8v {k:Int} {a b:ByteArray} (h:z0f k a=false):z0y k a b=(⟨#[]⟩,1):=by unfold z0y;rw[y3e h];rfl
theorem y1m {k:Int} {a b:ByteArray} (h:z0f k b=false):z0y k a b=(⟨#[]⟩,1):=by unfold z0y;rw[y3e h];cases vprs k a<;>rfl
theorem x9i {k:Int} {a b:ByteArray} (h:z0f k a=false):z1a k a b=0:=by unfold z1a;rw[y3e h]
theorem x7u {k:Int} {a b:ByteArray} (h:z0f k b=false):z1a k a b=0:=by unfold z1a;rw[y3e h];cases vprs k a<;>rfl
theorem z4w {w c:World} (h:Below (w.alloc (.cells #[.string ⟨#[105,110,102]⟩,.string ⟨#[48]⟩,.bool true,fv 155,fv 34,fv 156,fv 91,fv 91] 116)).heap.size (w.alloc (.cells #[.string ⟨#[105,110,102]⟩,.string ⟨#[48]⟩,.bool true,fv 155,fv 34,fv 156,fv 91,fv 91] 116)) c) :
  c.cell? ⟨w.heap.size,0,none⟩=some (.string ⟨#[105,110,102]⟩)/\c.cell? ⟨w.heap.size,1,none⟩=some (.string ⟨#[48]⟩)/\c.cell? ⟨w.heap.size,2,none⟩=some (.bool true)/\c.cell? ⟨w.heap.size,3,none⟩=some (fv 155)/\c.cell? ⟨w.heap.size,4,none⟩=some (fv 34)/\c.cell? ⟨w.heap.size,5,none⟩=some (fv 156)/\c.cell? ⟨w.heap.size,6,none⟩=some (fv 91)/\c.cell? ⟨w.heap.size,7,none⟩=some (fv 91) :=
 ⟨(cell_kept h 0).trans rfl,(cell_kept h 1).trans rfl,(cell_kept h 2).trans rfl,(cell_kept h 3).trans rfl,(cell_kept h 4).trans rfl,(cell_kept h 5).trans rfl,(cell_kept h 6).trans rfl,(cell_kept h 7).trans rfl⟩
theorem z4v {w c:World} (h:Below (w.alloc (.cells #[.string ⟨#[48]⟩,.string ⟨#[49]⟩,.bool false,fv 157,fv 158,fv 159,fv 160,fv 161] 116)).heap.size (w.alloc (.cells #[.string ⟨#[48]⟩,.string ⟨#[49]⟩,.bool false,fv 157,fv 158,fv 159,fv 160,fv 161] 116)) c) :
  c.cell? ⟨w.heap.size,0,none⟩=some (.string ⟨#[48]⟩)/\c.cell? ⟨w.heap.size,1,none⟩=some (.string ⟨#[49]⟩)/\c.cell? ⟨w.heap.size,2,none⟩=some (.bool false)/\c.cell? ⟨w.heap.size,3,none⟩=some (fv 157)/\c.cell? ⟨w.heap.size,4,none⟩=some (fv 158)/\c.cell? ⟨w.heap.size,5,none⟩=some (fv 159)/\c.cell? ⟨w.heap.size,6,none⟩=some (fv 160)/\c.cell? ⟨w.heap.size,7,none⟩=some (fv 161) :=
 ⟨(cell_kept h 0).trans rfl,(cell_kept h 1).trans rfl,(cell_kept h 2).trans rfl,(cell_kept h 3).trans rfl,(cell_kept h 4).trans rfl,(cell_kept h 5).trans rfl,(cell_kept h 6).trans rfl,(cell_kept h 7).trans rfl⟩
theorem z4y {w c:World} (h:Below (w.alloc (.cells #[.string ⟨#[48]⟩,.string ⟨#[49]⟩,.bool false,fv 155,fv 158,fv 162,fv 160,fv 161] 116)).heap.size (w.alloc (.cells #[.string ⟨#[48]⟩,.string ⟨#[49]⟩,.bool false,fv 155,fv 158,fv 162,fv 160,fv 161] 116)) c) :
  c.cell? ⟨w.heap.size,0,none⟩=some (.string ⟨#[48]⟩)/\c.cell? ⟨w.heap.size,1,none⟩=some (.string ⟨#[49]⟩)/\c.cell? ⟨w.heap.size,2,none⟩=some (.bool false)/\c.cell? ⟨w.heap.size,3,none⟩=some (fv 155)/\c.cell? ⟨w.heap.size,4,none⟩=some (fv 158)/\c.cell? ⟨w.heap.size,5,none⟩=some (fv 162)/\c.cell? ⟨w.heap.size,6,none⟩=some (fv 160)/\c.cell? ⟨w.heap.size,7,none⟩=some (fv 161) :=
 ⟨(cell_kept h 0).trans rfl,(cell_kept h 1).trans rfl,(cell_kept h 2).trans rfl,(cell_kept h 3).trans rfl,(cell_kept h 4).trans rfl,(cell_kept h 5).trans rfl,(cell_kept h 6).trans rfl,(cell_kept h 7).trans rfl⟩
theorem x7k (a:ByteArray) (w:World) (c:a.size<=9223372036854775807) (d:Tab w):Calls prog 91 #[.string a] w (BoolE (z0r 1 a) w):=by
 rw[v4v];exact y3q a w c d
theorem v0v (a:ByteArray) (w:World) (g:a.size<=9223372036854775807) (j:Tab w):Calls prog 121 #[.int .i64 1,.string a] w (BoolE (z0r 1 a) w):=by
 have c1:=fun i (h:Below w.heap.size w i)=>x7k a i g (j.below h (Nat.le_refl _));generalize z0r 1 a=z at *;have c0:=of_1 w;unfold OfEnd at c0;unfold ring1 at *;have l:=qh c0;clear c0;have k:=qh c1;clear c1 g j
 go_enter func121,ntmps121
 go_wp2_with fail
 refine l.out.mono ?_;rintro e p ⟨rfl,hb⟩;have c:=qh (hb.alloc hb.size (.cells ring1 116));clear hb
 go_wp2_with fail
 refine(k.out _ c.out).mono ?_;rintro e o ⟨rfl,hb⟩;have d:=qh (z0a c.out hb);clear hb
 go_wp2_with fail
 go_ret;exact⟨rfl,d.out⟩
theorem x7n (a:ByteArray) (w:World) (c:a.size<=9223372036854775807) (d:Tab w):Calls prog 161 #[.string a] w (BoolE (z0r 2 a) w):=by
 rw[y7w (k:=2) (by omega)];exact y3r a w c d
theorem v5h (a:ByteArray) (w:World) (g:a.size<=9223372036854775807) (j:Tab w):Calls prog 121 #[.int .i64 2,.string a] w (BoolE (z0r 2 a) w):=by
 have c1:=fun i (h:Below w.heap.size w i)=>x7n a i g (j.below h (Nat.le_refl _));generalize z0r 2 a=z at *;have c0:=of_2 w;unfold OfEnd at c0;unfold ring2 at *;have l:=qh c0;clear c0;have k:=qh c1;clear c1 g j
 go_enter func121,ntmps121
 go_wp2_with fail
 refine l.out.mono ?_;rintro e p ⟨rfl,hb⟩;have c:=qh (hb.alloc hb.size (.cells ring2 116));clear hb
 go_wp2_with fail
 refine(k.out _ c.out).mono ?_;rintro e o ⟨rfl,hb⟩;have d:=qh (z0a c.out hb);clear hb
 go_wp2_with fail
 go_ret;exact⟨rfl,d.out⟩
theorem x8s (a:ByteArray) (w:World) (c:a.size<=9223372036854775807) (d:Tab w):Calls prog 161 #[.string a] w (BoolE (z0r 3 a) w):=by
 rw[y7w (k:=3) (by omega)];exact y3r a w c d
theorem v0g (a:ByteArray) (w:World) (g:a.size<=9223372036854775807) (j:Tab w):Calls prog 121 #[.int .i64 3,.string a] w (BoolE (z0r 3 a) w):=by
 have c1:=fun i (h:Below w.heap.size w i)=>x8s a i g (j.below h (Nat.le_refl _));generalize z0r 3 a=z at *;have c0:=of_3 w;unfold OfEnd at c0;unfold ring3 at *;have l:=qh c0;clear c0;have k:=qh c1;clear c1 g j
 go_enter func121,ntmps121
 go_wp2_with fail
 refine l.out.mono ?_;rintro e p ⟨rfl,hb⟩;have c:=qh (hb.alloc hb.size (.cells ring3 116));clear hb
 go_wp2_with fail
 refine(k.out _ c.out).mono ?_;rintro e o ⟨rfl,hb⟩;have d:=qh (z0a c.out hb);clear hb
 go_wp2_with fail
 go_ret;exact⟨rfl,d.out⟩
theorem x8c (k:Int) (a:ByteArray) (w:World) (d:k<1\/3<k):Calls prog 121 #[.int .i64 k,.string a] w (BoolE (z0r k a) w):=by
 rw[y7u d];have c0:=v3u k w d;unfold OfEnd at c0;unfold ring0 at *;have g:=qh c0;clear c0
 go_enter func121,ntmps121
 go_wp2_with fail
 refine g.out.mono ?_;rintro e h ⟨rfl,hb⟩;have c:=qh (hb.alloc hb.size (.cells ring0 116));clear hb
 go_wp2_with fail
 go_ret;exact⟨rfl,c.out⟩
theorem z5h (k:Int) (a:ByteArray) (w:World) (c:a.size<=9223372036854775807) (d:Tab w):Calls prog 121 #[.int .i64 k,.string a] w (BoolE (z0r k a) w):=by
 rcases z1x k with rfl|rfl|rfl|g
 ·exact v0v a w c d
 ·exact v5h a w c d
 ·exact v0g a w c d
 exact x8c k a w g
theorem x0b:z2b 1=⟨#[105,110,102]⟩:=rfl
theorem x9a (w:World):Calls prog 125 #[.int .i64 1] w (StrE (z2b 1) w):=by
 rw[x0b];have c0:=of_1 w;unfold OfEnd at c0;unfold ring1 at *;have d:=qh c0;clear c0
 go_enter func125,ntmps125
 go_wp2_with fail
 refine d.out.mono ?_;rintro e g ⟨rfl,hb⟩;have c:=qh (hb.alloc hb.size (.cells ring1 116));clear hb
 go_wp2_with fail
 go_ret;exact⟨rfl,c.out⟩
theorem y9r:z2b 2=⟨#[48]⟩:=z9p
theorem x9d (w:World):Calls prog 125 #[.int .i64 2] w (StrE (z2b 2) w):=by
 rw[y9r];have c0:=of_2 w;unfold OfEnd at c0;unfold ring2 at *;have d:=qh c0;clear c0
 go_enter func125,ntmps125
 go_wp2_with fail
 refine d.out.mono ?_;rintro e g ⟨rfl,hb⟩;have c:=qh (hb.alloc hb.size (.cells ring2 116));clear hb
 go_wp2_with fail
 go_ret;exact⟨rfl,c.out⟩
theorem y9f:z2b 3=⟨#[48]⟩:=z9p
theorem x8g (w:World):Calls prog 125 #[.int .i64 3] w (StrE (z2b 3) w):=by
 rw[y9f];have c0:=of_3 w;unfold OfEnd at c0;unfold ring3 at *;have d:=qh c0;clear c0
 go_enter func125,ntmps125
 go_wp2_with fail
 refine d.out.mono ?_;rintro e g ⟨rfl,hb⟩;have c:=qh (hb.alloc hb.size (.cells ring3 116));clear hb
 go_wp2_with fail
 go_ret;exact⟨rfl,c.out⟩
theorem y8q {k:Int} (c:k<1\/3<k):z2b k=⟨#[]⟩:=by unfold z2b;rw[y5r c];rfl
theorem x3k (k:Int) (w:World) (d:k<1\/3<k):Calls prog 125 #[.int .i64 k] w (StrE (z2b k) w):=by
 rw[y8q d];have c0:=v3u k w d;unfold OfEnd at c0;unfold ring0 at *;have g:=qh c0;clear c0
 go_enter func125,ntmps125
 go_wp2_with fail
 refine g.out.mono ?_;rintro e h ⟨rfl,hb⟩;have c:=qh (hb.alloc hb.size (.cells ring0 116));clear hb
 go_wp2_with fail
 go_ret;exact⟨rfl,c.out⟩
theorem x0s (k:Int) (w:World):Calls prog 125 #[.int .i64 k] w (StrE (z2b k) w):=by
 rcases z1x k with rfl|rfl|rfl|c
 ·exact x9a w
 ·exact x9d w
 ·exact x8g w
 exact x3k k w c
theorem v8z:oneF 1=⟨#[48]⟩:=z9p
theorem v0m (w:World):Calls prog 49 #[.int .i64 1] w (StrE (oneF 1) w):=by
 rw[v8z];have c0:=of_1 w;unfold OfEnd at c0;unfold ring1 at *;have d:=qh c0;clear c0
 go_enter func49,ntmps49
 go_wp2_with fail
 refine d.out.mono ?_;rintro e g ⟨rfl,hb⟩;have c:=qh (hb.alloc hb.size (.cells ring1 116));clear hb
 go_wp2_with fail
 go_ret;exact⟨rfl,c.out⟩
theorem v9z:oneF 2=⟨#[49]⟩:=v0u
theorem v1i (w:World):Calls prog 49 #[.int .i64 2] w (StrE (oneF 2) w):=by
 rw[v9z];have c0:=of_2 w;unfold OfEnd at c0;unfold ring2 at *;have d:=qh c0;clear c0
 go_enter func49,ntmps49
 go_wp2_with fail
 refine d.out.mono ?_;rintro e g ⟨rfl,hb⟩;have c:=qh (hb.alloc hb.size (.cells ring2 116));clear hb
 go_wp2_with fail
 go_ret;exact⟨rfl,c.out⟩
theorem v9p:oneF 3=⟨#[49]⟩:=v0u
theorem v4b (w:World):Calls prog 49 #[.int .i64 3] w (StrE (oneF 3) w):=by
 rw[v9p];have c0:=of_3 w;unfold OfEnd at c0;unfold ring3 at *;have d:=qh c0;clear c0
 go_enter func49,ntmps49
 go_wp2_with fail
 refine d.out.mono ?_;rintro e g ⟨rfl,hb⟩;have c:=qh (hb.alloc hb.size (.cells ring3 116));clear hb
 go_wp2_with fail
 go_ret;exact⟨rfl,c.out⟩
theorem v4w {k:Int} (c:k<1\/3<k):oneF k=⟨#[]⟩:=by unfold oneF;rw[y5r c];rfl
theorem x7i (k:Int) (w:World) (d:k<1\/3<k):Calls prog 49 #[.int .i64 k] w (StrE (oneF k) w):=by
 rw[v4w d];have c0:=v3u k w d;unfold OfEnd at c0;unfold ring0 at *;have g:=qh c0;clear c0
 go_enter func49,ntmps49
 go_wp2_with fail
 refine g.out.mono ?_;rintro e h ⟨rfl,hb⟩;have c:=qh (hb.alloc hb.size (.cells ring0 116));clear hb
 go_wp2_with fail
 go_ret;exact⟨rfl,c.out⟩
theorem y0t (k:Int) (w:World):Calls prog 49 #[.int .i64 k] w (StrE (oneF k) w):=by
 rcases z1x k with rfl|rfl|rfl|c
 ·exact v0m w
 ·exact v1i w
 ·exact v4b w
 exact x7i k w c
theorem u1n (a b:ByteArray) (w:World) (A:a.size<=9223372036854775807) (hb:b.size<=9223372036854775807) (o:Tab w):Calls prog 164 #[.int .i64 1,.string a,.string b] w (PairEnd (z1r 1 a b) w):=by
 have c1:=fun k (h:Below w.heap.size w k)=>z9y a k A (o.below h (Nat.le_refl _));have c2:=fun k (h:Below w.heap.size w k)=>z9y b k hb (o.below h (Nat.le_refl _));cases j:z0f 1 a with
 | false =>
  rw[y2e j];rw[j] at c1;clear j c2 A hb o;have c0:=of_1 w;unfold OfEnd at c0;unfold ring1 at *;have s:=qh c0;clear c0;have p:=qh c1;clear c1
  go_enter func164,ntmps164
  go_wp2_with fail
  refine s.out.mono ?_;rintro e L ⟨rfl,hb⟩;have c:=qh (hb.alloc hb.size (.cells ring1 116));clear hb
  go_wp2_with fail
  refine(p.out _ c.out).mono ?_;rintro e I ⟨rfl,hb⟩;have d:=qh (z0a c.out hb);clear hb
  go_wp2_with fail
  go_ret2;exact⟨rfl,d.out⟩
 | true =>
  cases l:z0f 1 b with
  | false =>
   rw[y4a l];rw[j] at c1;rw[l] at c2;clear j l A hb o;have c0:=of_1 w;unfold OfEnd at c0;unfold ring1 at *;have s:=qh c0;clear c0;have p:=qh c1;clear c1;have D:=qh c2;clear c2
   go_enter func164,ntmps164
   go_wp2_with fail
   refine s.out.mono ?_;rintro e L ⟨rfl,hb⟩;have c:=qh (hb.alloc hb.size (.cells ring1 116));clear hb
   go_wp2_with fail
   refine(p.out _ c.out).mono ?_;rintro e I ⟨rfl,hb⟩;have i:=qh (hb);have d:=qh (z0a c.out hb);clear hb;obtain⟨q0,q1,q2,q3,q4,q5,q6,E⟩:=z4w i.out
   go_wp2_with fail
   refine(D.out _ d.out).mono ?_;rintro e O ⟨rfl,hb⟩;have g:=qh (z0a d.out hb);clear hb
   go_wp2_with fail
   go_ret2;exact⟨rfl,g.out⟩
  | true =>
   rw[j] at c1;rw[l] at c2;obtain⟨v,K,rv,P,H,z⟩:=z1j j;obtain⟨u,F,S,R,J,G⟩:=z1j l;clear j l;have N:z1r 1 a b=limV (z1t 1 v u):=by unfold z1r;rw[K,F]
   have c3:=fun k (h:Below w.heap.size w k)=>x4d v u k z G (o.below h (Nat.le_refl _));rw[<- H,<- J,<- N] at c3;generalize z1r 1 a b=r at *;obtain⟨T,W⟩:=r;clear N K rv P H z F S R J G A hb o;have c0:=of_1 w;unfold OfEnd at c0;unfold ring1 at *;have s:=qh c0;clear c0;have p:=qh c1;clear c1;have D:=qh c2;clear c2;have Q:=qh c3;clear c3
   go_enter func164,ntmps164
   go_wp2_with fail
   refine s.out.mono ?_;rintro e L ⟨rfl,hb⟩;have c:=qh (hb.alloc hb.size (.cells ring1 116));clear hb
   go_wp2_with fail
   refine(p.out _ c.out).mono ?_;rintro e I ⟨rfl,hb⟩;have i:=qh (hb);have d:=qh (z0a c.out hb);clear hb;obtain⟨q0,q1,q2,q3,q4,q5,q6,E⟩:=z4w i.out
   go_wp2_with fail
   refine(D.out _ d.out).mono ?_;rintro e O ⟨rfl,hb⟩;clear q0 q1 q2 q3 q4 q5 q6 E;have B:=qh (z0a i.out hb);have g:=qh (z0a d.out hb);clear hb;obtain⟨q0,q1,q2,q3,q4,q5,q6,E⟩:=z4w B.out
   go_wp2_with fail
   refine(Q.out _ g.out).mono ?_;rintro e U ⟨rfl,hb⟩;have C:=qh (z0a g.out hb);clear hb
   go_wp2_with fail
   go_ret2;exact⟨rfl,C.out⟩
theorem u2r (a b:ByteArray) (w:World) (A:a.size<=9223372036854775807) (hb:b.size<=9223372036854775807) (o:Tab w):Calls prog 164 #[.int .i64 2,.string a,.string b] w (PairEnd (z1r 2 a b) w):=by
 have c1:=fun k (h:Below w.heap.size w k)=>z9u a k A (o.below h (Nat.le_refl _));have c2:=fun k (h:Below w.heap.size w k)=>z9u b k hb (o.below h (Nat.le_refl _));cases j:z0f 2 a with
 | false =>
  rw[y2e j];rw[j] at c1;clear j c2 A hb o;have c0:=of_2 w;unfold OfEnd at c0;unfold ring2 at *;have s:=qh c0;clear c0;have p:=qh c1;clear c1
  go_enter func164,ntmps164
  go_wp2_with fail
  refine s.out.mono ?_;rintro e O ⟨rfl,hb⟩;have c:=qh (hb.alloc hb.size (.cells ring2 116));clear hb
  go_wp2_with fail
  refine(p.out _ c.out).mono ?_;rintro e K ⟨rfl,hb⟩;have d:=qh (z0a c.out hb);clear hb
  go_wp2_with fail
  go_ret2;exact⟨rfl,d.out⟩
 | true =>
  cases l:z0f 2 b with
  | false =>
   rw[y4a l];rw[j] at c1;rw[l] at c2;clear j l A hb o;have c0:=of_2 w;unfold OfEnd at c0;unfold ring2 at *;have s:=qh c0;clear c0;have p:=qh c1;clear c1;have D:=qh c2;clear c2
   go_enter func164,ntmps164
   go_wp2_with fail
   refine s.out.mono ?_;rintro e O ⟨rfl,hb⟩;have c:=qh (hb.alloc hb.size (.cells ring2 116));clear hb
   go_wp2_with fail
   refine(p.out _ c.out).mono ?_;rintro e K ⟨rfl,hb⟩;have i:=qh (hb);have d:=qh (z0a c.out hb);clear hb;obtain⟨q0,q1,q2,q3,q4,q5,q6,E⟩:=z4v i.out
   go_wp2_with fail
   refine(D.out _ d.out).mono ?_;rintro e Q ⟨rfl,hb⟩;have g:=qh (z0a d.out hb);clear hb
   go_wp2_with fail
   go_ret2;exact⟨rfl,g.out⟩
  | true =>
   rw[j] at c1;rw[l] at c2;obtain⟨v,N,rv,G,J,z⟩:=z1j j;obtain⟨u,F,S,H,L,I⟩:=z1j l;clear j l;have P:z1r 2 a b=limV (z1t 2 v u):=by unfold z1r;rw[N,F]
   have c3:=fun k (h:Below w.heap.size w k)=>u2n v u k z I (z0t G (by decide)) (z0t H (by decide)) (o.below h (Nat.le_refl _));rw[<- J,<- L,<- P] at c3;generalize z1r 2 a b=r at *;obtain⟨T,W⟩:=r;clear P N rv G J z F S H L I A hb o;have c0:=of_2 w;unfold OfEnd at c0;unfold ring2 at *;have s:=qh c0;clear c0;have p:=qh c1;clear c1;have D:=qh c2;clear c2;have R:=qh c3;clear c3
   go_enter func164,ntmps164
   go_wp2_with fail
   refine s.out.mono ?_;rintro e O ⟨rfl,hb⟩;have c:=qh (hb.alloc hb.size (.cells ring2 116));clear hb
   go_wp2_with fail
   refine(p.out _ c.out).mono ?_;rintro e K ⟨rfl,hb⟩;have i:=qh (hb);have d:=qh (z0a c.out hb);clear hb;obtain⟨q0,q1,q2,q3,q4,q5,q6,E⟩:=z4v i.out
   go_wp2_with fail
   refine(D.out _ d.out).mono ?_;rintro e Q ⟨rfl,hb⟩;clear q0 q1 q2 q3 q4 q5 q6 E;have B:=qh (z0a i.out hb);have g:=qh (z0a d.out hb);clear hb;obtain⟨q0,q1,q2,q3,q4,q5,q6,E⟩:=z4v B.out
   go_wp2_with fail
   refine(R.out _ g.out).mono ?_;rintro e U ⟨rfl,hb⟩;have C:=qh (z0a g.out hb);clear hb
   go_wp2_with fail
   go_ret2;exact⟨rfl,C.out⟩
theorem u0w (a b:ByteArray) (w:World) (A:a.size<=9223372036854775807) (hb:b.size<=9223372036854775807) (o:Tab w):Calls prog 164 #[.int .i64 3,.string a,.string b] w (PairEnd (z1r 3 a b) w):=by
 have c1:=fun k (h:Below w.heap.size w k)=>y0d a k A (o.below h (Nat.le_refl _));have c2:=fun k (h:Below w.heap.size w k)=>y0d b k hb (o.below h (Nat.le_refl _));cases j:z0f 3 a with
 | false =>
  rw[y2e j];rw[j] at c1;clear j c2 A hb o;have c0:=of_3 w;unfold OfEnd at c0;unfold ring3 at *;have s:=qh c0;clear c0;have p:=qh c1;clear c1
  go_enter func164,ntmps164
  go_wp2_with fail
  refine s.out.mono ?_;rintro e L ⟨rfl,hb⟩;have c:=qh (hb.alloc hb.size (.cells ring3 116));clear hb
  go_wp2_with fail
  refine(p.out _ c.out).mono ?_;rintro e I ⟨rfl,hb⟩;have d:=qh (z0a c.out hb);clear hb
  go_wp2_with fail
  go_ret2;exact⟨rfl,d.out⟩
 | true =>
  cases l:z0f 3 b with
  | false =>
   rw[y4a l];rw[j] at c1;rw[l] at c2;clear j l A hb o;have c0:=of_3 w;unfold OfEnd at c0;unfold ring3 at *;have s:=qh c0;clear c0;have p:=qh c1;clear c1;have D:=qh c2;clear c2
   go_enter func164,ntmps164
   go_wp2_with fail
   refine s.out.mono ?_;rintro e L ⟨rfl,hb⟩;have c:=qh (hb.alloc hb.size (.cells ring3 116));clear hb
   go_wp2_with fail
   refine(p.out _ c.out).mono ?_;rintro e I ⟨rfl,hb⟩;have i:=qh (hb);have d:=qh (z0a c.out hb);clear hb;obtain⟨q0,q1,q2,q3,q4,q5,q6,E⟩:=z4y i.out
   go_wp2_with fail
   refine(D.out _ d.out).mono ?_;rintro e O ⟨rfl,hb⟩;have g:=qh (z0a d.out hb);clear hb
   go_wp2_with fail
   go_ret2;exact⟨rfl,g.out⟩
  | true =>
   rw[j] at c1;rw[l] at c2;obtain⟨v,K,rv,P,H,z⟩:=z1j j;obtain⟨u,F,S,R,J,G⟩:=z1j l;clear j l;have N:z1r 3 a b=limV (z1t 3 v u):=by unfold z1r;rw[K,F]
   have c3:=fun k (h:Below w.heap.size w k)=>x4k v u k z G (o.below h (Nat.le_refl _));rw[<- H,<- J,<- N] at c3;generalize z1r 3 a b=r at *;obtain⟨T,W⟩:=r;clear N K rv P H z F S R J G A hb o;have c0:=of_3 w;unfold OfEnd at c0;unfold ring3 at *;have s:=qh c0;clear c0;have p:=qh c1;clear c1;have D:=qh c2;clear c2;have Q:=qh c3;clear c3
   go_enter func164,ntmps164
   go_wp2_with fail
   refine s.out.mono ?_;rintro e L ⟨rfl,hb⟩;have c:=qh (hb.alloc hb.size (.cells ring3 116));clear hb
   go_wp2_with fail
   refine(p.out _ c.out).mono ?_;rintro e I ⟨rfl,hb⟩;have i:=qh (hb);have d:=qh (z0a c.out hb);clear hb;obtain⟨q0,q1,q2,q3,q4,q5,q6,E⟩:=z4y i.out
   go_wp2_with fail
   refine(D.out _ d.out).mono ?_;rintro e O ⟨rfl,hb⟩;clear q0 q1 q2 q3 q4 q5 q6 E;have B:=qh (z0a i.out hb);have g:=qh (z0a d.out hb);clear hb;obtain⟨q0,q1,q2,q3,q4,q5,q6,E⟩:=z4y B.out
   go_wp2_with fail
   refine(Q.out _ g.out).mono ?_;rintro e U ⟨rfl,hb⟩;have C:=qh (z0a g.out hb);clear hb
   go_wp2_with fail
   go_ret2;exact⟨rfl,C.out⟩
theorem v5t (k:Int) (a b:ByteArray) (w:World) (d:k<1\/3<k):Calls prog 164 #[.int .i64 k,.string a,.string b] w (PairEnd (z1r k a b) w):=by
 rw[y2e (z6h d a)];have c0:=v3u k w d;unfold OfEnd at c0;unfold ring0 at *;have g:=qh c0;clear c0
 go_enter func164,ntmps164
 go_wp2_with fail
 refine g.out.mono ?_;rintro e h ⟨rfl,hb⟩;have c:=qh (hb.alloc hb.size (.cells ring0 116));clear hb
 go_wp2_with fail
 go_ret2;exact⟨rfl,c.out⟩
theorem x0m (k:Int) (a b:ByteArray) (w:World) (c:a.size<=9223372036854775807) (hb:b.size<=9223372036854775807) (d:Tab w):Calls prog 164 #[.int .i64 k,.string a,.string b] w (PairEnd (z1r k a b) w):=by
 rcases z1x k with rfl|rfl|rfl|g
 ·exact u1n a b w c hb d
 ·exact u2r a b w c hb d
 ·exact u0w a b w c hb d
 exact v5t k a b w g
end
section
open Go.RowKit
end
section
open Go.RowKit
end
section
open Go.RowKit
theorem index3a0 (w:World):(Instr.index 119 (.agg #[.string ⟨#[105,110,102]⟩,.string ⟨#[105,110,102]⟩,.string ⟨#[45,105,110,102]⟩]) (.int .i64 0)).run prog w=.ok (.string ⟨#[105,110,102]⟩) w:=by kernel_rfl
theorem index3a1 (w:World):(Instr.index 119 (.agg #[.string ⟨#[105,110,102]⟩,.string ⟨#[105,110,102]⟩,.string ⟨#[45,105,110,102]⟩]) (.int .i64 1)).run prog w=.ok (.string ⟨#[105,110,102]⟩) w:=by kernel_rfl
theorem index3a2 (w:World):(Instr.index 119 (.agg #[.string ⟨#[105,110,102]⟩,.string ⟨#[105,110,102]⟩,.string ⟨#[45,105,110,102]⟩]) (.int .i64 2)).run prog w=.ok (.string ⟨#[45,105,110,102]⟩) w:=by kernel_rfl
theorem index3b0 (w:World):(Instr.index 119 (.agg #[.string ⟨#[48]⟩,.string ⟨#[105,110,102]⟩,.string ⟨#[45,105,110,102]⟩]) (.int .i64 0)).run prog w=.ok (.string ⟨#[48]⟩) w:=by kernel_rfl
theorem index3b1 (w:World):(Instr.index 119 (.agg #[.string ⟨#[48]⟩,.string ⟨#[105,110,102]⟩,.string ⟨#[45,105,110,102]⟩]) (.int .i64 1)).run prog w=.ok (.string ⟨#[105,110,102]⟩) w:=by kernel_rfl
theorem index3b2 (w:World):(Instr.index 119 (.agg #[.string ⟨#[48]⟩,.string ⟨#[105,110,102]⟩,.string ⟨#[45,105,110,102]⟩]) (.int .i64 2)).run prog w=.ok (.string ⟨#[45,105,110,102]⟩) w:=by kernel_rfl
theorem y0p {v:V} (h:fitV v):((vtxt v).toList==[105,110,102])=decide (v=.inf):=by
 cases v with
 | inf=>show (infS.toList==_)=_;rw[z1u];rfl
 | low=>show (lowS.toList==_)=_;rw[z2n];rfl
 | fin q=>show ((txt q).toList==_)=_;rw[z7n h];rfl
theorem y2h {v:V} (h:fitV v):((vtxt v).toList==[45,105,110,102])=decide (v=.low):=by
 cases v with
 | inf=>show (infS.toList==_)=_;rw[z1u];rfl
 | low=>show (lowS.toList==_)=_;rw[z2n];rfl
 | fin q=>show ((txt q).toList==_)=_;rw[y3a h];rfl
theorem z7h {v:V} (h:fitV v):((vtxt v).toList==[48])=decide (v=.fin 0):=by
 cases v with
 | inf=>show (infS.toList==_)=_;rw[z1u];rfl
 | low=>show (lowS.toList==_)=_;rw[z2n];rfl
 | fin q =>
  show ((txt q).toList==_)=_;by_cases c:q=0
  ·subst c;rw[z9p,Lib.toList_data];simp
  rw[decide_eq_false (fun e=>c (by injection e))];exact z2k (l:=[48]) (fun e=>c (u0z h x4m (e.trans z9p.symm)))
theorem z3v:limV .inf=(⟨#[105,110,102]⟩,0):=rfl
theorem y4r:limV .low=(⟨#[45,105,110,102]⟩,0):=rfl
theorem z5p:limV (.fin 0)=(⟨#[48]⟩,0):=(z9x x4m).trans (by rw[z9p])
theorem v7b (a b:ByteArray) (w:World) (N:a.size<=9223372036854775807) (hb:b.size<=9223372036854775807) (F:Tab w):Calls prog 37 #[.int .i64 1,.string a,.string b] w (PairEnd (z0y 1 a b) w):=by
 have c1:=fun A (h:Below w.heap.size w A)=>z9y a A N (F.below h (Nat.le_refl _));have c2:=fun A (h:Below w.heap.size w A)=>z9y b A hb (F.below h (Nat.le_refl _));cases z:z0f 1 a with
 | false =>
  rw[z8v z];rw[z] at c1;clear z c2 N hb F;have c0:=of_1 w;unfold OfEnd at c0;unfold ring1 at *;have I:=qh c0;clear c0;have H:=qh c1;clear c1
  go_enter func37,ntmps37
  go_wp2_with fail
  refine I.out.mono ?_;rintro e w1 ⟨rfl,hb⟩;have c:=qh (hb.alloc hb.size (.cells ring1 116));clear hb
  go_wp2_with fail
  refine(H.out _ c.out).mono ?_;rintro e w2 ⟨rfl,hb⟩;have g:=qh (z0a c.out hb);clear hb
  go_wp2_with fail
  go_ret2;exact⟨rfl,g.out⟩
 | true =>
  cases G:z0f 1 b with
  | false =>
   rw[y1m G];rw[z] at c1;rw[G] at c2;clear z G N hb F;have c0:=of_1 w;unfold OfEnd at c0;unfold ring1 at *;have I:=qh c0;clear c0;have H:=qh c1;clear c1;have Y:=qh c2;clear c2
   go_enter func37,ntmps37
   go_wp2_with fail
   refine I.out.mono ?_;rintro e w1 ⟨rfl,hb⟩;have c:=qh (hb.alloc hb.size (.cells ring1 116));clear hb
   go_wp2_with fail
   refine(H.out _ c.out).mono ?_;rintro e w2 ⟨rfl,hb⟩;have s:=qh (hb);have g:=qh (z0a c.out hb);clear hb;obtain⟨q0,q1,q2,q3,q4,q5,q6,q7⟩:=z4w s.out
   go_wp2_with fail
   refine(Y.out _ g.out).mono ?_;rintro e w3 ⟨rfl,hb⟩;have d:=qh (z0a g.out hb);clear hb
   go_wp2_with fail
   go_ret2;exact⟨rfl,d.out⟩
  | true =>
   rw[z] at c1;rw[G] at c2;obtain⟨v,pv,rv,ov,R,j⟩:=z1j z;obtain⟨u,pu,ru,ou,eb,K⟩:=z1j G;clear z G;have hr:z0y 1 a b=limV (z0d 1 v u):=by unfold z0y;rw[pv,pu]
   have P:=index3a0;have W:=index3a1;have x2:=index3a2;have E:=y0p j;have B:=y2h j;have l:=z7h j;have D:=y0p K;have o:=y2h K;have p:=z7h K;rw[<- R] at E B l;rw[<- eb] at D o p;have c0:=of_1 w;unfold OfEnd at c0;unfold ring1 at *;have I:=qh c0;clear c0;have H:=qh c1;clear c1;have Y:=qh c2;clear c2;rw[hr];obtain⟨r,C⟩:=exq (limV (z0d 1 v u));rw[<- C];obtain⟨J,L⟩:=r;have k:=qh C;clear C;have HX:=qh (And.intro P (And.intro W x2));clear P W x2;have Q:=qh (And.intro E (And.intro B l));clear E B l;have Z:=qh (And.intro D (And.intro o p));clear D o p;have EA:=qh R;have EB:=qh eb;have FA:=qh j;have FB:=qh K;have OV:=qh ov;have OU:=qh ou;clear hr pv rv ov R j pu ru ou eb K N hb;have HT:=qh F;clear F
   go_enter func37,ntmps37
   go_wp2_with fail
   refine I.out.mono ?_;rintro e w1 ⟨rfl,hb⟩;have c:=qh (hb.alloc hb.size (.cells ring1 116));clear hb
   go_wp2_with fail
   refine(H.out _ c.out).mono ?_;rintro e w2 ⟨rfl,hb⟩;have s:=qh (hb);have g:=qh (z0a c.out hb);clear hb;obtain⟨q0,q1,q2,q3,q4,q5,q6,q7⟩:=z4w s.out
   go_wp2_with fail
   refine(Y.out _ g.out).mono ?_;rintro e w3 ⟨rfl,hb⟩;clear q0 q1 q2 q3 q4 q5 q6 q7;have T:=qh (z0a s.out hb);have d:=qh (z0a g.out hb);clear hb;obtain⟨q0,q1,q2,q3,q4,q5,q6,q7⟩:=z4w T.out
   go_wp2_with fail
   obtain⟨P,W,x2⟩:=HX.out;obtain⟨E,B,l⟩:=Q.out;obtain⟨D,o,p⟩:=Z.out;by_cases v1:v=.inf
   ·subst v1;simp only[decide_true] at E;clear B l D o p;have i:J=⟨#[105,110,102]⟩/\L=0:=by
     have:=k.out;rw[show z0d 1 _ _=.inf from by rw[times1],z3v] at this;injection this with e1 e2;exact⟨e1,e2⟩
    obtain⟨rfl,rfl⟩:=i;refine wp_loop_rounds 4 ?_;rw[rounds_succ];go_wp2_with fail;go_ret2;exact⟨rfl,d.out⟩
   rw[decide_eq_false v1] at E;by_cases O:u=.inf
   ·subst O;simp only[decide_true] at D;clear B l o p;have i:J=⟨#[105,110,102]⟩/\L=0:=by
     have:=k.out;rw[show z0d 1 _ _=.inf from by rw[times1];cases v<;>first|rfl|exact absurd rfl v1,z3v] at this
     injection this with e1 e2;exact⟨e1,e2⟩
    obtain⟨rfl,rfl⟩:=i;refine wp_loop_rounds 4 ?_;rw[rounds_succ];go_wp2_with fail;go_ret2;exact⟨rfl,d.out⟩
   rw[decide_eq_false O] at D;by_cases X:v=.low
   ·subst X;simp only[decide_true] at B;clear l o p;have i:J=⟨#[45,105,110,102]⟩/\L=0:=by
     have:=k.out;rw[show z0d 1 _ _=.low from by rw[times1];cases u<;>first|rfl|exact absurd rfl O,y4r] at this
     injection this with e1 e2;exact⟨e1,e2⟩
    obtain⟨rfl,rfl⟩:=i;refine wp_loop_rounds 4 ?_;rw[rounds_succ];go_wp2_with fail;rw[rounds_succ];go_wp2_with fail;rw[rounds_succ];go_wp2_with fail;go_ret2;exact⟨rfl,d.out⟩
   rw[decide_eq_false X] at B;by_cases S:u=.low
   ·subst S;simp only[decide_true] at o;clear l p;have i:J=⟨#[45,105,110,102]⟩/\L=0:=by
     have:=k.out;rw[show z0d 1 _ _=.low from by rw[times1];cases v<;>first|rfl|exact absurd rfl v1,y4r] at this
     injection this with e1 e2;exact⟨e1,e2⟩
    obtain⟨rfl,rfl⟩:=i;refine wp_loop_rounds 4 ?_;rw[rounds_succ];go_wp2_with fail;rw[rounds_succ];go_wp2_with fail;rw[rounds_succ];go_wp2_with fail;go_ret2;exact⟨rfl,d.out⟩
   rw[decide_eq_false S] at o;clear l p;cases v with
   | inf=>exact absurd rfl v1
   | low=>exact absurd rfl X
   | fin x =>
    cases u with
    | inf=>exact absurd rfl O
    | low=>exact absurd rfl S
    | fin y =>
     have za:a.size<=9223372036854775807:=by have:=z3k FA.out;rw[EA.out];show (txt x).size<=_;omega
     have zb:b.size<=9223372036854775807:=by have:=z3k FB.out;rw[EB.out];show (txt y).size<=_;omega
     have c3:=fun A (h:Below w.heap.size w A)=>y9j a b A za zb (HT.out.below h (Nat.le_refl _));have e3:z2m a b=(J,L):=by
      rw[k.out,times1,EA.out,EB.out];show z2m (txt x) (txt y)=_;unfold z2m;rw[z1e FA.out,z1e FB.out];rfl
     rw[e3] at c3;have C3:=qh c3;clear c3 e3 za zb;refine wp_loop_rounds 4 ?_;rw[rounds_succ];go_wp2_with fail;rw[rounds_succ];go_wp2_with fail;rw[rounds_succ];go_wp2_with fail;rw[rounds_succ];go_wp2_with fail
     go_wp2_with fail
     refine(C3.out _ d.out).mono ?_;rintro e w4 ⟨rfl,hb⟩;have U:=qh (z0a d.out hb);clear hb
     go_wp2_with fail
     go_ret2;exact⟨rfl,U.out⟩
theorem v8j (a b:ByteArray) (w:World) (N:a.size<=9223372036854775807) (hb:b.size<=9223372036854775807) (F:Tab w):Calls prog 37 #[.int .i64 2,.string a,.string b] w (PairEnd (z0y 2 a b) w):=by
 have c1:=fun A (h:Below w.heap.size w A)=>z9u a A N (F.below h (Nat.le_refl _));have c2:=fun A (h:Below w.heap.size w A)=>z9u b A hb (F.below h (Nat.le_refl _));cases z:z0f 2 a with
 | false =>
  rw[z8v z];rw[z] at c1;clear z c2 N hb F;have c0:=of_2 w;unfold OfEnd at c0;unfold ring2 at *;have I:=qh c0;clear c0;have H:=qh c1;clear c1
  go_enter func37,ntmps37
  go_wp2_with fail
  refine I.out.mono ?_;rintro e w1 ⟨rfl,hb⟩;have c:=qh (hb.alloc hb.size (.cells ring2 116));clear hb
  go_wp2_with fail
  refine(H.out _ c.out).mono ?_;rintro e w2 ⟨rfl,hb⟩;have g:=qh (z0a c.out hb);clear hb
  go_wp2_with fail
  go_ret2;exact⟨rfl,g.out⟩
 | true =>
  cases G:z0f 2 b with
  | false =>
   rw[y1m G];rw[z] at c1;rw[G] at c2;clear z G N hb F;have c0:=of_2 w;unfold OfEnd at c0;unfold ring2 at *;have I:=qh c0;clear c0;have H:=qh c1;clear c1;have Y:=qh c2;clear c2
   go_enter func37,ntmps37
   go_wp2_with fail
   refine I.out.mono ?_;rintro e w1 ⟨rfl,hb⟩;have c:=qh (hb.alloc hb.size (.cells ring2 116));clear hb
   go_wp2_with fail
   refine(H.out _ c.out).mono ?_;rintro e w2 ⟨rfl,hb⟩;have s:=qh (hb);have g:=qh (z0a c.out hb);clear hb;obtain⟨q0,q1,q2,q3,q4,q5,q6,q7⟩:=z4v s.out
   go_wp2_with fail
   refine(Y.out _ g.out).mono ?_;rintro e w3 ⟨rfl,hb⟩;have d:=qh (z0a g.out hb);clear hb
   go_wp2_with fail
   go_ret2;exact⟨rfl,d.out⟩
  | true =>
   rw[z] at c1;rw[G] at c2;obtain⟨v,pv,rv,ov,R,j⟩:=z1j z;obtain⟨u,pu,ru,ou,eb,K⟩:=z1j G;clear z G;have hr:z0y 2 a b=limV (z0d 2 v u):=by unfold z0y;rw[pv,pu]
   have P:=index3b0;have W:=index3b1;have x2:=index3b2;have B:=y0p j;have o:=y2h j;have E:=z7h j;have l:=y0p K;have p:=y2h K;have D:=z7h K;rw[<- R] at B o E;rw[<- eb] at l p D;have c0:=of_2 w;unfold OfEnd at c0;unfold ring2 at *;have I:=qh c0;clear c0;have H:=qh c1;clear c1;have Y:=qh c2;clear c2;rw[hr];obtain⟨r,C⟩:=exq (limV (z0d 2 v u));rw[<- C];obtain⟨J,L⟩:=r;have k:=qh C;clear C;have HX:=qh (And.intro P (And.intro W x2));clear P W x2;have Q:=qh (And.intro B (And.intro o E));clear B o E;have Z:=qh (And.intro l (And.intro p D));clear l p D;have EA:=qh R;have EB:=qh eb;have FA:=qh j;have FB:=qh K;have OV:=qh ov;have OU:=qh ou;clear hr pv rv ov R j pu ru ou eb K N hb;have HT:=qh F;clear F
   go_enter func37,ntmps37
   go_wp2_with fail
   refine I.out.mono ?_;rintro e w1 ⟨rfl,hb⟩;have c:=qh (hb.alloc hb.size (.cells ring2 116));clear hb
   go_wp2_with fail
   refine(H.out _ c.out).mono ?_;rintro e w2 ⟨rfl,hb⟩;have s:=qh (hb);have g:=qh (z0a c.out hb);clear hb;obtain⟨q0,q1,q2,q3,q4,q5,q6,q7⟩:=z4v s.out
   go_wp2_with fail
   refine(Y.out _ g.out).mono ?_;rintro e w3 ⟨rfl,hb⟩;clear q0 q1 q2 q3 q4 q5 q6 q7;have T:=qh (z0a s.out hb);have d:=qh (z0a g.out hb);clear hb;obtain⟨q0,q1,q2,q3,q4,q5,q6,q7⟩:=z4v T.out
   go_wp2_with fail
   obtain⟨P,W,x2⟩:=HX.out;obtain⟨B,o,E⟩:=Q.out;obtain⟨l,p,D⟩:=Z.out;have l1:v≠.low:=z0t OV.out (by decide);have l2:u≠.low:=z0t OU.out (by decide);rw[decide_eq_false l1] at o;rw[decide_eq_false l2] at p;by_cases v1:v=.fin 0
   ·subst v1;simp only[decide_true] at E;clear B o l p D;have i:J=⟨#[48]⟩/\L=0:=by
     have:=k.out;rw[show z0d 2 _ _=.fin 0 from by rw[times23 (by decide) l1 l2,z2h],z5p] at this;injection this with e1 e2;exact⟨e1,e2⟩
    obtain⟨rfl,rfl⟩:=i;refine wp_loop_rounds 4 ?_;rw[rounds_succ];go_wp2_with fail;go_ret2;exact⟨rfl,d.out⟩
   rw[decide_eq_false v1] at E;by_cases O:u=.fin 0
   ·subst O;simp only[decide_true] at D;clear B o l p;have i:J=⟨#[48]⟩/\L=0:=by
     have:=k.out;rw[show z0d 2 _ _=.fin 0 from by rw[times23 (by decide) l1 l2,z2f],z5p] at this;injection this with e1 e2;exact⟨e1,e2⟩
    obtain⟨rfl,rfl⟩:=i;refine wp_loop_rounds 4 ?_;rw[rounds_succ];go_wp2_with fail;go_ret2;exact⟨rfl,d.out⟩
   rw[decide_eq_false O] at D;by_cases X:v=.inf
   ·subst X;simp only[decide_true] at B;clear o l p;have i:J=⟨#[105,110,102]⟩/\L=0:=by
     have:=k.out;rw[show z0d 2 _ _=.inf from by rw[times23 (by decide) l1 l2];unfold mulV;rw[if_neg (fun e=>e.elim v1 O)],z3v] at this;injection this with e1 e2;exact⟨e1,e2⟩
    obtain⟨rfl,rfl⟩:=i;refine wp_loop_rounds 4 ?_;rw[rounds_succ];go_wp2_with fail;rw[rounds_succ];go_wp2_with fail;go_ret2;exact⟨rfl,d.out⟩
   rw[decide_eq_false X] at B;by_cases S:u=.inf
   ·subst S;simp only[decide_true] at l;clear o p;have i:J=⟨#[105,110,102]⟩/\L=0:=by
     have:=k.out;rw[show z0d 2 _ _=.inf from by rw[times23 (by decide) l1 l2];unfold mulV;rw[if_neg (fun e=>e.elim v1 O)];cases v<;>rfl,z3v] at this
     injection this with e1 e2;exact⟨e1,e2⟩
    obtain⟨rfl,rfl⟩:=i;refine wp_loop_rounds 4 ?_;rw[rounds_succ];go_wp2_with fail;rw[rounds_succ];go_wp2_with fail;go_ret2;exact⟨rfl,d.out⟩
   rw[decide_eq_false S] at l;cases v with
   | inf=>exact absurd rfl X
   | low=>exact absurd rfl l1
   | fin x =>
    cases u with
    | inf=>exact absurd rfl S
    | low=>exact absurd rfl l2
    | fin y =>
     have za:a.size<=9223372036854775807:=by have:=z3k FA.out;rw[EA.out];show (txt x).size<=_;omega
     have zb:b.size<=9223372036854775807:=by have:=z3k FB.out;rw[EB.out];show (txt y).size<=_;omega
     have c3:=fun A (h:Below w.heap.size w A)=>x5g a b A za zb (HT.out.below h (Nat.le_refl _));have e3:z5x a b=(J,L):=by
      rw[k.out,times23 (by decide) l1 l2,z1z,EA.out,EB.out];show z5x (txt x) (txt y)=_;unfold z5x;rw[z1e FA.out,z1e FB.out];rfl
     rw[e3] at c3;have C3:=qh c3;clear c3 e3 za zb;refine wp_loop_rounds 4 ?_;rw[rounds_succ];go_wp2_with fail;rw[rounds_succ];go_wp2_with fail;rw[rounds_succ];go_wp2_with fail;rw[rounds_succ];go_wp2_with fail
     go_wp2_with fail
     refine(C3.out _ d.out).mono ?_;rintro e w4 ⟨rfl,hb⟩;have U:=qh (z0a d.out hb);clear hb
     go_wp2_with fail
     go_ret2;exact⟨rfl,U.out⟩
theorem v7h (a b:ByteArray) (w:World) (N:a.size<=9223372036854775807) (hb:b.size<=9223372036854775807) (F:Tab w):Calls prog 37 #[.int .i64 3,.string a,.string b] w (PairEnd (z0y 3 a b) w):=by
 have c1:=fun A (h:Below w.heap.size w A)=>y0d a A N (F.below h (Nat.le_refl _));have c2:=fun A (h:Below w.heap.size w A)=>y0d b A hb (F.below h (Nat.le_refl _));cases z:z0f 3 a with
 | false =>
  rw[z8v z];rw[z] at c1;clear z c2 N hb F;have c0:=of_3 w;unfold OfEnd at c0;unfold ring3 at *;have I:=qh c0;clear c0;have H:=qh c1;clear c1
  go_enter func37,ntmps37
  go_wp2_with fail
  refine I.out.mono ?_;rintro e w1 ⟨rfl,hb⟩;have c:=qh (hb.alloc hb.size (.cells ring3 116));clear hb
  go_wp2_with fail
  refine(H.out _ c.out).mono ?_;rintro e w2 ⟨rfl,hb⟩;have g:=qh (z0a c.out hb);clear hb
  go_wp2_with fail
  go_ret2;exact⟨rfl,g.out⟩
 | true =>
  cases G:z0f 3 b with
  | false =>
   rw[y1m G];rw[z] at c1;rw[G] at c2;clear z G N hb F;have c0:=of_3 w;unfold OfEnd at c0;unfold ring3 at *;have I:=qh c0;clear c0;have H:=qh c1;clear c1;have Y:=qh c2;clear c2
   go_enter func37,ntmps37
   go_wp2_with fail
   refine I.out.mono ?_;rintro e w1 ⟨rfl,hb⟩;have c:=qh (hb.alloc hb.size (.cells ring3 116));clear hb
   go_wp2_with fail
   refine(H.out _ c.out).mono ?_;rintro e w2 ⟨rfl,hb⟩;have s:=qh (hb);have g:=qh (z0a c.out hb);clear hb;obtain⟨q0,q1,q2,q3,q4,q5,q6,q7⟩:=z4y s.out
   go_wp2_with fail
   refine(Y.out _ g.out).mono ?_;rintro e w3 ⟨rfl,hb⟩;have d:=qh (z0a g.out hb);clear hb
   go_wp2_with fail
   go_ret2;exact⟨rfl,d.out⟩
  | true =>
   rw[z] at c1;rw[G] at c2;obtain⟨v,pv,rv,ov,R,j⟩:=z1j z;obtain⟨u,pu,ru,ou,eb,K⟩:=z1j G;clear z G;have hr:z0y 3 a b=limV (z0d 3 v u):=by unfold z0y;rw[pv,pu]
   have P:=index3b0;have W:=index3b1;have x2:=index3b2;have B:=y0p j;have o:=y2h j;have E:=z7h j;have l:=y0p K;have p:=y2h K;have D:=z7h K;rw[<- R] at B o E;rw[<- eb] at l p D;have c0:=of_3 w;unfold OfEnd at c0;unfold ring3 at *;have I:=qh c0;clear c0;have H:=qh c1;clear c1;have Y:=qh c2;clear c2;rw[hr];obtain⟨r,C⟩:=exq (limV (z0d 3 v u));rw[<- C];obtain⟨J,L⟩:=r;have k:=qh C;clear C;have HX:=qh (And.intro P (And.intro W x2));clear P W x2;have Q:=qh (And.intro B (And.intro o E));clear B o E;have Z:=qh (And.intro l (And.intro p D));clear l p D;have EA:=qh R;have EB:=qh eb;have FA:=qh j;have FB:=qh K;have OV:=qh ov;have OU:=qh ou;clear hr pv rv ov R j pu ru ou eb K N hb;have HT:=qh F;clear F
   go_enter func37,ntmps37
   go_wp2_with fail
   refine I.out.mono ?_;rintro e w1 ⟨rfl,hb⟩;have c:=qh (hb.alloc hb.size (.cells ring3 116));clear hb
   go_wp2_with fail
   refine(H.out _ c.out).mono ?_;rintro e w2 ⟨rfl,hb⟩;have s:=qh (hb);have g:=qh (z0a c.out hb);clear hb;obtain⟨q0,q1,q2,q3,q4,q5,q6,q7⟩:=z4y s.out
   go_wp2_with fail
   refine(Y.out _ g.out).mono ?_;rintro e w3 ⟨rfl,hb⟩;clear q0 q1 q2 q3 q4 q5 q6 q7;have T:=qh (z0a s.out hb);have d:=qh (z0a g.out hb);clear hb;obtain⟨q0,q1,q2,q3,q4,q5,q6,q7⟩:=z4y T.out
   go_wp2_with fail
   obtain⟨P,W,x2⟩:=HX.out;obtain⟨B,o,E⟩:=Q.out;obtain⟨l,p,D⟩:=Z.out;have l1:v≠.low:=z0t OV.out (by decide);have l2:u≠.low:=z0t OU.out (by decide);rw[decide_eq_false l1] at o;rw[decide_eq_false l2] at p;by_cases v1:v=.fin 0
   ·subst v1;simp only[decide_true] at E;clear B o l p D;have i:J=⟨#[48]⟩/\L=0:=by
     have:=k.out;rw[show z0d 3 _ _=.fin 0 from by rw[times23 (by decide) l1 l2,z2h],z5p] at this;injection this with e1 e2;exact⟨e1,e2⟩
    obtain⟨rfl,rfl⟩:=i;refine wp_loop_rounds 4 ?_;rw[rounds_succ];go_wp2_with fail;go_ret2;exact⟨rfl,d.out⟩
   rw[decide_eq_false v1] at E;by_cases O:u=.fin 0
   ·subst O;simp only[decide_true] at D;clear B o l p;have i:J=⟨#[48]⟩/\L=0:=by
     have:=k.out;rw[show z0d 3 _ _=.fin 0 from by rw[times23 (by decide) l1 l2,z2f],z5p] at this;injection this with e1 e2;exact⟨e1,e2⟩
    obtain⟨rfl,rfl⟩:=i;refine wp_loop_rounds 4 ?_;rw[rounds_succ];go_wp2_with fail;go_ret2;exact⟨rfl,d.out⟩
   rw[decide_eq_false O] at D;by_cases X:v=.inf
   ·subst X;simp only[decide_true] at B;clear o l p;have i:J=⟨#[105,110,102]⟩/\L=0:=by
     have:=k.out;rw[show z0d 3 _ _=.inf from by rw[times23 (by decide) l1 l2];unfold mulV;rw[if_neg (fun e=>e.elim v1 O)],z3v] at this;injection this with e1 e2;exact⟨e1,e2⟩
    obtain⟨rfl,rfl⟩:=i;refine wp_loop_rounds 4 ?_;rw[rounds_succ];go_wp2_with fail;rw[rounds_succ];go_wp2_with fail;go_ret2;exact⟨rfl,d.out⟩
   rw[decide_eq_false X] at B;by_cases S:u=.inf
   ·subst S;simp only[decide_true] at l;clear o p;have i:J=⟨#[105,110,102]⟩/\L=0:=by
     have:=k.out;rw[show z0d 3 _ _=.inf from by rw[times23 (by decide) l1 l2];unfold mulV;rw[if_neg (fun e=>e.elim v1 O)];cases v<;>rfl,z3v] at this
     injection this with e1 e2;exact⟨e1,e2⟩
    obtain⟨rfl,rfl⟩:=i;refine wp_loop_rounds 4 ?_;rw[rounds_succ];go_wp2_with fail;rw[rounds_succ];go_wp2_with fail;go_ret2;exact⟨rfl,d.out⟩
   rw[decide_eq_false S] at l;cases v with
   | inf=>exact absurd rfl X
   | low=>exact absurd rfl l1
   | fin x =>
    cases u with
    | inf=>exact absurd rfl S
    | low=>exact absurd rfl l2
    | fin y =>
     have za:a.size<=9223372036854775807:=by have:=z3k FA.out;rw[EA.out];show (txt x).size<=_;omega
     have zb:b.size<=9223372036854775807:=by have:=z3k FB.out;rw[EB.out];show (txt y).size<=_;omega
     have c3:=fun A (h:Below w.heap.size w A)=>x5g a b A za zb (HT.out.below h (Nat.le_refl _));have e3:z5x a b=(J,L):=by
      rw[k.out,times23 (by decide) l1 l2,z1z,EA.out,EB.out];show z5x (txt x) (txt y)=_;unfold z5x;rw[z1e FA.out,z1e FB.out];rfl
     rw[e3] at c3;have C3:=qh c3;clear c3 e3 za zb;refine wp_loop_rounds 4 ?_;rw[rounds_succ];go_wp2_with fail;rw[rounds_succ];go_wp2_with fail;rw[rounds_succ];go_wp2_with fail;rw[rounds_succ];go_wp2_with fail
     go_wp2_with fail
     refine(C3.out _ d.out).mono ?_;rintro e w4 ⟨rfl,hb⟩;have U:=qh (z0a d.out hb);clear hb
     go_wp2_with fail
     go_ret2;exact⟨rfl,U.out⟩
theorem x9t (k:Int) (a b:ByteArray) (w:World) (d:k<1\/3<k):Calls prog 37 #[.int .i64 k,.string a,.string b] w (PairEnd (z0y k a b) w):=by
 rw[z8v (z6h d a)];have c0:=v3u k w d;unfold OfEnd at c0;unfold ring0 at *;have g:=qh c0;clear c0
 go_enter func37,ntmps37
 go_wp2_with fail
 refine g.out.mono ?_;rintro e h ⟨rfl,hb⟩;have c:=qh (hb.alloc hb.size (.cells ring0 116));clear hb
 go_wp2_with fail
 go_ret2;exact⟨rfl,c.out⟩
theorem y9p (k:Int) (a b:ByteArray) (w:World) (c:a.size<=9223372036854775807) (hb:b.size<=9223372036854775807) (d:Tab w):Calls prog 37 #[.int .i64 k,.string a,.string b] w (PairEnd (z0y k a b) w):=by
 rcases z1x k with rfl|rfl|rfl|g
 ·exact v7b a b w c hb d
 ·exact v8j a b w c hb d
 ·exact v7h a b w c hb d
 exact x9t k a b w g
end
section
open Go.RowKit
end
section
open Go.RowKit
theorem y3b (k:Int):(z2b k).size<=100000:=by
 rcases z1x k with rfl|rfl|rfl|c
 ·rw[x0b];decide
 ·rw[y9r];decide
 ·rw[y9f];decide
 rw[y8q c];decide
theorem x9k (k:Int):(oneF k).size<=100000:=by
 rcases z1x k with rfl|rfl|rfl|c
 ·rw[v8z];decide
 ·rw[v9z];decide
 ·rw[v9p];decide
 rw[v4w c];decide
end
end Go.Proofs.YtjekapjbigfkbaaGreatDoor
