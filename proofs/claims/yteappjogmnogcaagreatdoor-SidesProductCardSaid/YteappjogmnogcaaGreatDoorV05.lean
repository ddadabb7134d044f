/- Parts of a proof: MS2 SemF SemH SemG MX MR1 MR2 MR3 MR4. -/
import Derived.Test.YteappjogmnogcaaGreatDoorV04
import Derived.Test.YteappjogmnogcaaGreatDoorV00
import Derived.LoopN
import Derived.Test.YteappjogmnogcaaGreatDoorV02
import Derived.Test.YteappjogmnogcaaGreatDoorV03
import Derived.Deep.QuietTactic
import Derived.BigQuiet
import Derived.Laws.Concat
namespace Go.Proofs.YteappjogmnogcaaGreatDoor
set_option maxRecDepth 100000
set_option linter.unusedSimpArgs false
set_option linter.unusedVariables false
set_option linter.unusedSectionVars false
set_option maxHeartbeats 16000000
open Go Tryz
section
open Go.RowKit
theorem z6c:txt 0=⟨#[48]⟩:=((z2t y0f).1).symm
theorem y2t:fitQ 0:=(z2t y0f).2
theorem y8k:prs ⟨#[49]⟩=some 1:=by
 have:txt 1=⟨#[49]⟩:=by unfold txt txtL;rw[show negQ 1=false from rfl,show (1:Rat).num.natAbs=1 from rfl,show (1:Rat).den=1 from rfl,z5s];rfl
 rw[<- this];exact z2k (by unfold fitQ;rw[show (1:Rat).num.natAbs=1 from rfl,show (1:Rat).den=1 from rfl,z5s];decide)
theorem y4b:txt 1=⟨#[49]⟩:=((z2t y8k).1).symm
theorem x3t:fitQ 1:=(z2t y8k).2
def natB (a:ByteArray):Bool:=match prs a with|some q=>decide (0<=q)|none=>false
def posB (a:ByteArray):Bool:=match prs a with|some q=>decide (0<q)|none=>false
theorem y6d {a:ByteArray} {q:Rat} (h:prs a=some q):y3x a ⟨#[48]⟩=cmpQ q 0:=by unfold y3x;rw[h,y0f]
theorem v2i (a:ByteArray):z0m 1 a=(prs a).isSome:=by
 unfold z0m rdV;by_cases d:a=infS
 ·rw[if_pos d,d,y8q];rfl
 rw[if_neg d];by_cases c:a=lowS
 ·rw[if_pos c,c,y3p];rfl
 rw[if_neg c];cases prs a with
 | none=>rfl
 | some q=>simp[wtV]
theorem y6h {k:Int} (g:k=2\/k=3) (a:ByteArray):z0m k a=posB a:=by
 unfold z0m rdV posB;by_cases d:a=infS
 ·rw[if_pos d,d,y8q];rfl
 rw[if_neg d];by_cases c:a=lowS
 ·rw[if_pos c,c,y3p];rfl
 rw[if_neg c];cases prs a with
 | none=>rfl
 | some q =>
  show decide (wtV k (.fin q))=decide (0<q);rw[decide_eq_decide]
  constructor
  ·intro h;rcases h with h|h
   ·omega
   exact h.2
  intro h;exact .inr ⟨g,h⟩
theorem y1s {k:Int} (c:k=1\/k=2\/k=3):z0q k infS=true:=by
 have:vprs k infS=some .inf:=z3e.2 ⟨by simp[rdV],by unfold okV;omega⟩;unfold z0q;rw[this];rfl
theorem x2v:z0q 1 lowS=true:=by
 have:vprs 1 lowS=some .low:=z3e.2 ⟨by simp[rdV,show lowS≠infS by decide],rfl⟩;unfold z0q;rw[this];rfl
theorem v4q {a:ByteArray} (d:a≠infS) (c:a≠lowS):z0q 1 a=(prs a).isSome:=by
 unfold z0q vprs rdV;rw[if_neg d,if_neg c];cases prs a with
 | none=>rfl
 | some q=>simp[okV]
theorem x1n {k:Int} (d:k=2\/k=3) {a:ByteArray} (g:a≠infS):z0q k a=natB a:=by
 unfold z0q vprs rdV natB;rw[if_neg g];by_cases c:a=lowS
 ·rw[if_pos c,c,y3p];have:decide (okV k .low)=false:=by rw[decide_eq_false_iff_not];intro h;change k=1 at h;omega
  simp[Option.filter,this]
 rw[if_neg c];cases prs a with
 | none=>rfl
 | some q =>
  have:decide (okV k (.fin q))=decide (0<=q):=by
   rw[decide_eq_decide]
   constructor
   ·intro h;rcases h with h|h
    ·omega
    exact h.2
   intro h;exact .inr ⟨d,h⟩
  simp only[Option.map_some,Option.filter,this];cases decide (0<=q)<;>rfl
def BoolE (b:Bool) (w:World) (e:Ending) (w':World):Prop:=e=.returned (.bool b)/\Below w.heap.size w w'
theorem y2c (a:ByteArray) (w:World) (c:a.size<=9223372036854775807) (d:Tab w):Calls prog 160 #[.string a] w (BoolE (prs a).isSome w):=z8h a w c d
theorem y3f (a:ByteArray) (w:World) (i:a.size<=9223372036854775807) (j:Tab w):Calls prog 164 #[.string a] w (BoolE (natB a) w):=by
 have c1:=z8h a w i j;have c2:=fun m (h:Below w.heap.size w m)=>y8e a ⟨#[48]⟩ m i (by decide) (j.below h nlr);cases d:prs a with
 | none =>
  have g:natB a=false:=by unfold natB;rw[d]
  rw[g];rw[d] at c1;simp only[Option.isSome] at c1;have l:=qh c1;clear c1 c2 d g i j
  go_enter func164,ntmps164
  go_wp2_with fail
  refine nxa l.out fun u c=>?_;go_wp2;go_ret;exact⟨rfl,c.out⟩
 | some q =>
  have g:natB a=decide (0<=q):=by unfold natB;rw[d]
  rw[y6d d] at c2;rw[g];rw[d] at c1;simp only[Option.isSome] at c1;have l:=qh c1;clear c1;have o:(decide (0<=q)=decide (0<=cmpQ q 0)):=by
   rcases z1n q 0 with ⟨h,e⟩|⟨h,e⟩|⟨h,e⟩<;>rw[e]
   ·rw[decide_eq_decide];simp;exact Rat.not_le.2 h
   ·subst h;rfl
   rw[decide_eq_decide];simp;exact Rat.le_of_lt h
  rw[o];have p:cmpQ q 0=-1\/cmpQ q 0=0\/cmpQ q 0=1:=by rcases z1n q 0 with ⟨h,e⟩|⟨h,e⟩|⟨h,e⟩<;>simp[e]
  generalize cmpQ q 0=z at *;have s:=qh c2;clear c2 d g i j o
  rcases p with rfl|rfl|rfl
  all_goals
   go_enter func164,ntmps164
   go_wp2_with fail
   refine nxa l.out fun u c=>?_
   go_wp2_with fail
   refine nxb (s.out _ c.out) c fun A k=>?_;go_wp2;go_ret;exact⟨rfl,k.out⟩
theorem y2e (a:ByteArray) (w:World) (i:a.size<=9223372036854775807) (j:Tab w):Calls prog 165 #[.string a] w (BoolE (posB a) w):=by
 have c1:=z8h a w i j;have c2:=fun m (h:Below w.heap.size w m)=>y8e a ⟨#[48]⟩ m i (by decide) (j.below h nlr);cases d:prs a with
 | none =>
  have g:posB a=false:=by unfold posB;rw[d]
  rw[g];rw[d] at c1;simp only[Option.isSome] at c1;have l:=qh c1;clear c1 c2 d g i j
  go_enter func165,ntmps165
  go_wp2_with fail
  refine nxa l.out fun u c=>?_;go_wp2;go_ret;exact⟨rfl,c.out⟩
 | some q =>
  have g:posB a=decide (0<q):=by unfold posB;rw[d]
  rw[y6d d] at c2;rw[g];rw[d] at c1;simp only[Option.isSome] at c1;have l:=qh c1;clear c1;have o:(decide (0<q)=decide (0<cmpQ q 0)):=by
   rcases z1n q 0 with ⟨h,e⟩|⟨h,e⟩|⟨h,e⟩<;>rw[e]
   ·rw[decide_eq_decide];simp;exact Rat.not_lt.2 (Rat.le_of_lt h)
   ·subst h;rfl
   rw[decide_eq_decide];simp;exact h
  rw[o];have p:cmpQ q 0=-1\/cmpQ q 0=0\/cmpQ q 0=1:=by rcases z1n q 0 with ⟨h,e⟩|⟨h,e⟩|⟨h,e⟩<;>simp[e]
  generalize cmpQ q 0=z at *;have s:=qh c2;clear c2 d g i j o
  rcases p with rfl|rfl|rfl
  all_goals
   go_enter func165,ntmps165
   go_wp2_with fail
   refine nxa l.out fun u c=>?_
   go_wp2_with fail
   refine nxb (s.out _ c.out) c fun A k=>?_;go_wp2;go_ret;exact⟨rfl,k.out⟩
theorem z5k (a:ByteArray) (w:World) (o:a.size<=9223372036854775807) (p:Tab w):Calls prog 98 #[.agg ring1,.string a] w (BoolE (z0q 1 a) w):=by
 have j:Below w.heap.size w (w.alloc (.cells ring1 123)):=blr.alloc nlr _;have c1:=fun m (h:Below w.heap.size w m)=>y2c a m o (p.below h nlr);have z:=qh c1;clear c1 o p;have c:=qh j;clear j;unfold ring1 at c ⊢;by_cases d:a=infS
 ·have u:(a.toList==[105,110,102])=true:=by rw[d,z2z];rfl
  have i:z0q 1 a=true:=by rw[d];exact y1s (by omega)
  rw[i];clear i d
  go_enter func98,ntmps98
  go_wp2;go_ret;exact⟨rfl,c.out⟩
 have u:(a.toList==[105,110,102])=false:=z4n (l:=[105,110,102]) d;by_cases g:a=lowS
 ·have s:(a.toList==[45,105,110,102])=true:=by rw[g,z5u];rfl
  have i:z0q 1 a=true:=by rw[g];exact x2v
  rw[i];clear i d g
  go_enter func98,ntmps98
  go_wp2;go_ret;exact⟨rfl,c.out⟩
 have s:(a.toList==[45,105,110,102])=false:=z4n (l:=[45,105,110,102]) g;rw[v4q d g];clear d g
 go_enter func98,ntmps98
 go_wp2_with fail
 refine nxb (z.out _ c.out) c fun A k=>?_;go_wp2;go_ret;exact⟨rfl,k.out⟩
theorem z5i (a:ByteArray) (w:World) (k:a.size<=9223372036854775807) (o:Tab w):Calls prog 98 #[.agg ring2,.string a] w (BoolE (z0q 2 a) w):=by
 have g:Below w.heap.size w (w.alloc (.cells ring2 123)):=blr.alloc nlr _;have c1:=fun j (h:Below w.heap.size w j)=>y3f a j k (o.below h nlr);have s:=qh c1;clear c1 k o;have c:=qh g;clear g;unfold ring2 at c ⊢;by_cases d:a=infS
 ·have p:(a.toList==[105,110,102])=true:=by rw[d,z2z];rfl
  have m:z0q 2 a=true:=by rw[d];exact y1s (by omega)
  rw[m];clear m d
  go_enter func98,ntmps98
  go_wp2;go_ret;exact⟨rfl,c.out⟩
 have p:(a.toList==[105,110,102])=false:=z4n (l:=[105,110,102]) d;rw[x1n (by omega) d];clear d;cases z:(a.toList==[45,105,110,102])
 all_goals
  go_enter func98,ntmps98
  go_wp2_with fail
  refine nxb (s.out _ c.out) c fun u i=>?_;go_wp2;go_ret;exact⟨rfl,i.out⟩
theorem z5j (a:ByteArray) (w:World) (k:a.size<=9223372036854775807) (o:Tab w):Calls prog 98 #[.agg ring3,.string a] w (BoolE (z0q 3 a) w):=by
 have g:Below w.heap.size w (w.alloc (.cells ring3 123)):=blr.alloc nlr _;have c1:=fun j (h:Below w.heap.size w j)=>y3f a j k (o.below h nlr);have s:=qh c1;clear c1 k o;have c:=qh g;clear g;unfold ring3 at c ⊢;by_cases d:a=infS
 ·have p:(a.toList==[105,110,102])=true:=by rw[d,z2z];rfl
  have m:z0q 3 a=true:=by rw[d];exact y1s (by omega)
  rw[m];clear m d
  go_enter func98,ntmps98
  go_wp2;go_ret;exact⟨rfl,c.out⟩
 have p:(a.toList==[105,110,102])=false:=z4n (l:=[105,110,102]) d;rw[x1n (by omega) d];clear d;cases z:(a.toList==[45,105,110,102])
 all_goals
  go_enter func98,ntmps98
  go_wp2_with fail
  refine nxb (s.out _ c.out) c fun u i=>?_;go_wp2;go_ret;exact⟨rfl,i.out⟩
theorem cell_kept {w g:World} {c:Array Value} {t:TypeId} (h:Below (w.alloc (.cells c t)).heap.size (w.alloc (.cells c t)) g) (i:Nat):g.cell? ⟨w.heap.size,i,none⟩=c[i]?:=by
 have d:w.heap.size<(w.alloc (.cells c t)).heap.size:=by simp
 exact(h.cell (p:=⟨w.heap.size,i,none⟩) d).trans (cell_of_row _ _ i c t (0,0) (heap_alloc_last w _))
theorem x3f (v u:V) (w:World) (s:fitV v) (A:fitV u) (B:Tab w):Calls prog 157 #[.agg ring1,.string (vtxt v),.string (vtxt u)] w (PairEnd (limV (z1p 1 v u)) w):=by
 have i:Below w.heap.size w (w.alloc (.cells ring1 123)):=blr.alloc nlr _;have c1:=fun k (h:Below w.heap.size w k)=>z4u v u k s A (B.below h nlr);have p:z1p 1 v u=if 0<cmpV v u then u else v:=by unfold z1p;rfl
 rw[p];have l:limV (if 0<cmpV v u then u else v)=(if 0<cmpV v u then vtxt u else vtxt v,0):=by split<;>(rw[y0r];assumption)
 rw[l];have C:=z8v v u;generalize cmpV v u=z at *;have j:=qh c1;clear c1 B p l;have c:=qh i;clear i;unfold ring1 at c ⊢;generalize vtxt v=a at *;generalize vtxt u=b at *;clear s A
 rcases C with rfl|rfl|rfl
 ·change Calls _ _ _ _ (PairEnd (a,0) w)
  go_enter func157,ntmps157
  go_wp2_with fail
  refine(j.out _ c.out).mono ?_;rintro e m ⟨rfl,hb⟩;have d:=qh hb;have g:=qh (z0a c.out hb);clear hb;have o:=cell_kept d.out 2;go_wp2;go_ret2;exact⟨rfl,g.out⟩
 ·change Calls _ _ _ _ (PairEnd (a,0) w)
  go_enter func157,ntmps157
  go_wp2_with fail
  refine(j.out _ c.out).mono ?_;rintro e m ⟨rfl,hb⟩;have d:=qh hb;have g:=qh (z0a c.out hb);clear hb;have o:=cell_kept d.out 2;go_wp2;go_ret2;exact⟨rfl,g.out⟩
 change Calls _ _ _ _ (PairEnd (b,0) w)
 go_enter func157,ntmps157
 go_wp2_with fail
 refine(j.out _ c.out).mono ?_;rintro e m ⟨rfl,hb⟩;have d:=qh hb;have g:=qh (z0a c.out hb);clear hb;have o:=cell_kept d.out 2;go_wp2;go_ret2;exact⟨rfl,g.out⟩
theorem x2e (v u:V) (w:World) (s:fitV v) (A:fitV u) (B:Tab w):Calls prog 157 #[.agg ring3,.string (vtxt v),.string (vtxt u)] w (PairEnd (limV (z1p 3 v u)) w):=by
 have i:Below w.heap.size w (w.alloc (.cells ring3 123)):=blr.alloc nlr _;have c1:=fun k (h:Below w.heap.size w k)=>z4u v u k s A (B.below h nlr);have p:z1p 3 v u=if cmpV v u<0 then u else v:=by unfold z1p;rfl
 rw[p];have l:limV (if cmpV v u<0 then u else v)=(if cmpV v u<0 then vtxt u else vtxt v,0):=by split<;>(rw[y0r];assumption)
 rw[l];have C:=z8v v u;generalize cmpV v u=z at *;have j:=qh c1;clear c1 B p l;have c:=qh i;clear i;unfold ring3 at c ⊢;generalize vtxt v=a at *;generalize vtxt u=b at *;clear s A
 rcases C with rfl|rfl|rfl
 ·change Calls _ _ _ _ (PairEnd (b,0) w)
  go_enter func157,ntmps157
  go_wp2_with fail
  refine(j.out _ c.out).mono ?_;rintro e m ⟨rfl,hb⟩;have d:=qh hb;have g:=qh (z0a c.out hb);clear hb;have o:=cell_kept d.out 2;go_wp2;go_ret2;exact⟨rfl,g.out⟩
 ·change Calls _ _ _ _ (PairEnd (a,0) w)
  go_enter func157,ntmps157
  go_wp2_with fail
  refine(j.out _ c.out).mono ?_;rintro e m ⟨rfl,hb⟩;have d:=qh hb;have g:=qh (z0a c.out hb);clear hb;have o:=cell_kept d.out 2;go_wp2;go_ret2;exact⟨rfl,g.out⟩
 change Calls _ _ _ _ (PairEnd (a,0) w)
 go_enter func157,ntmps157
 go_wp2_with fail
 refine(j.out _ c.out).mono ?_;rintro e m ⟨rfl,hb⟩;have d:=qh hb;have g:=qh (z0a c.out hb);clear hb;have o:=cell_kept d.out 2;go_wp2;go_ret2;exact⟨rfl,g.out⟩
theorem u3k (v u:V) (w:World) (i:fitV v) (j:fitV u) (lv:v≠.low) (lu:u≠.low) (k:Tab w):Calls prog 161 #[.agg ring2,.string (vtxt v),.string (vtxt u)] w (PairEnd (limV (z1p 2 v u)) w):=by
 have d:Below w.heap.size w (w.alloc (.cells ring2 123)):=blr.alloc nlr _;rw[z6g];cases v with
 | low=>exact absurd rfl lv
 | inf =>
  have g:limV (addV .inf u)=(infS,0):=by cases u<;>rfl
  rw[g];have z:((vtxt .inf).toList==[105,110,102])=true:=by show (infS.toList==_)=_;rw[z2z];rfl
  generalize vtxt .inf=a at *;generalize vtxt u=b at *;have c:=qh d;clear d i j lv lu k g;unfold ring2 at c ⊢;unfold infS
  go_enter func161,ntmps161
  go_wp2;go_ret2;exact⟨rfl,c.out⟩
 | fin x =>
  have z:((vtxt (.fin x)).toList==[105,110,102])=false:=z8y i;cases u with
  | low=>exact absurd rfl lu
  | inf =>
   have g:limV (addV (.fin x) .inf)=(infS,0):=rfl;rw[g];have s:((vtxt .inf).toList==[105,110,102])=true:=by show (infS.toList==_)=_;rw[z2z];rfl
   generalize vtxt .inf=b at *;generalize vtxt (.fin x)=a at *;have c:=qh d;clear d i j lv lu k g;unfold ring2 at c ⊢;unfold infS
   go_enter func161,ntmps161
   go_wp2;go_ret2;exact⟨rfl,c.out⟩
  | fin y =>
   have s:((vtxt (.fin y)).toList==[105,110,102])=false:=z8y j;have l:=z3c i;have o:=z3c j;have c1:=fun p (h:Below w.heap.size w p)=>x4x (txt x) (txt y) p (by omega) (by omega) (k.below h nlr);have g:x0h (txt x) (txt y)=limV (addV (.fin x) (.fin y)):=by unfold x0h;rw[z2k i,z2k j];rfl
   rw[g] at c1;change Calls _ _ #[_,.string (txt x),.string (txt y)] _ _;change ((txt x).toList==_)=_ at z;change ((txt y).toList==_)=_ at s;generalize limV (addV (.fin x) (.fin y))=lr at *;obtain⟨ls,C⟩:=lr;generalize txt x=a at *;generalize txt y=b at *;have A:=qh c1;clear c1;have c:=qh d;clear d i j lv lu k g l o;unfold ring2 at c ⊢
   go_enter func161,ntmps161
   go_wp2_with fail
   refine nxb (A.out _ c.out) c fun B m=>?_;go_wp2;go_ret2;exact⟨rfl,m.out⟩
theorem x3c (v:V) (w:World) (j:fitV v) (k:Tab w):Calls prog 159 #[.string (vtxt v)] w (PairEnd (limV (z1z 1 v)) w):=by
 have c1:=z4u v (.fin 0) w j y2t k;have i:z1z 1 v=if 0<=cmpV v (.fin 0) then .fin 0 else .low:=rfl
 have h:limV (z1z 1 v)=(if 0<=cmpV v (.fin 0) then ⟨#[48]⟩ else lowS,0):=by
  rw[i];split
  ·exact(z8p y2t).trans (by rw[z6c])
  rfl
 rw[h];change Calls _ _ #[_,.string (txt 0)] _ _ at c1;rw[z6c] at c1;have l:=z8v v (.fin 0);generalize cmpV v (.fin 0)=z at *;have d:=qh c1;clear c1 k i h;generalize vtxt v=a at *;clear j;unfold lowS
 rcases l with rfl|rfl|rfl
 ·change Calls _ _ _ _ (PairEnd (⟨#[45,105,110,102]⟩,0) w)
  go_enter func159,ntmps159
  go_wp2_with fail
  refine nxa d.out fun g c=>?_;go_wp2;go_ret2;exact⟨rfl,c.out⟩
 ·change Calls _ _ _ _ (PairEnd (⟨#[48]⟩,0) w)
  go_enter func159,ntmps159
  go_wp2_with fail
  refine nxa d.out fun g c=>?_;go_wp2;go_ret2;exact⟨rfl,c.out⟩
 change Calls _ _ _ _ (PairEnd (⟨#[48]⟩,0) w)
 go_enter func159,ntmps159
 go_wp2_with fail
 refine nxa d.out fun g c=>?_;go_wp2;go_ret2;exact⟨rfl,c.out⟩
theorem y9s (v:V) (w:World) (j:fitV v) (k:Tab w):Calls prog 166 #[.string (vtxt v)] w (PairEnd (limV (z1z 3 v)) w):=by
 have c1:=z4u v (.fin 1) w j x3t k;have i:z1z 3 v=if cmpV v (.fin 1)<=0 then .fin 1 else .inf:=rfl
 have h:limV (z1z 3 v)=(if cmpV v (.fin 1)<=0 then ⟨#[49]⟩ else infS,0):=by
  rw[i];split
  ·exact(z8p x3t).trans (by rw[y4b])
  rfl
 rw[h];change Calls _ _ #[_,.string (txt 1)] _ _ at c1;rw[y4b] at c1;have l:=z8v v (.fin 1);generalize cmpV v (.fin 1)=z at *;have d:=qh c1;clear c1 k i h;generalize vtxt v=a at *;clear j;unfold infS
 rcases l with rfl|rfl|rfl
 ·change Calls _ _ _ _ (PairEnd (⟨#[49]⟩,0) w)
  go_enter func166,ntmps166
  go_wp2_with fail
  refine nxa d.out fun g c=>?_;go_wp2;go_ret2;exact⟨rfl,c.out⟩
 ·change Calls _ _ _ _ (PairEnd (⟨#[49]⟩,0) w)
  go_enter func166,ntmps166
  go_wp2_with fail
  refine nxa d.out fun g c=>?_;go_wp2;go_ret2;exact⟨rfl,c.out⟩
 change Calls _ _ _ _ (PairEnd (⟨#[105,110,102]⟩,0) w)
 go_enter func166,ntmps166
 go_wp2_with fail
 refine nxa d.out fun g c=>?_;go_wp2;go_ret2;exact⟨rfl,c.out⟩
theorem v8f {x:Rat} (m:fitQ x) (l:0<=x) (k:x<1):fitQ (1-x):=by
 have c:=v0m.1 m;rw[v0m,Rat.sub_def'];obtain⟨g,j⟩:=y8d (n:=(1:Rat).num*x.den-x.num*(1:Rat).den) (d:=(1:Rat).den*x.den) (Nat.mul_ne_zero (by decide) x.den_nz);have p:0<=x.num:=Rat.num_nonneg.2 l;have o:x.num<x.den:=by
  have:=(Rat.lt_iff x 1).1 k
  simpa using this
 have i:((1:Rat).num*x.den-x.num*(1:Rat).den).natAbs<=x.den:=by
  rw[Rat.one_num,Rat.one_den];omega
 have h:(1:Rat).den*x.den=x.den:=by rw[Rat.one_den,Nat.one_mul]
 exact⟨Nat.lt_of_le_of_lt (Nat.le_trans g i) c.2,Nat.lt_of_le_of_lt (Nat.le_trans j (Nat.le_of_eq h)) c.2⟩
theorem x2q (v:V) (w:World) (i:fitV v) (d:okV 2 v) (j:Tab w):Calls prog 163 #[.string (vtxt v)] w (PairEnd (limV (z1z 2 v)) w):=by
 have c1:=z4u v (.fin 1) w i x3t j;change Calls _ _ #[_,.string (txt 1)] _ _ at c1;rw[y4b] at c1
 rcases z2i d (by decide) with rfl|⟨x,rfl,I⟩
 ·have g:limV (z1z 2 .inf)=(infS,0):=rfl;have A:cmpV .inf (.fin 1)=1:=rfl;rw[g];rw[A] at c1;have m:=qh c1;clear c1 j i d g A;generalize vtxt .inf=a at *;unfold infS
  go_enter func163,ntmps163
  go_wp2_with fail
  refine nxa m.out fun B c=>?_;go_wp2;go_ret2;exact⟨rfl,c.out⟩
 have o:z1z 2 (.fin x)=if 0<=cmpQ x 1 then .inf else .fin (1 / (1-x)):=rfl
 have s:cmpV (.fin x) (.fin 1)=cmpQ x 1:=rfl;rw[s] at c1
 rcases z1n x 1 with ⟨h,e⟩|h
 ·have hf:=v8f i I h;have D:1-x≠0:=Rat.ne_of_gt ((Rat.lt_iff_sub_pos x 1).1 h);have g:limV (z1z 2 (.fin x))=limR (1 / (1-x)):=by rw[o,e];rfl
  have J:=z3c i;have F:=z3c hf;have c2:=fun k (h:Below w.heap.size w k)=>v5f ⟨#[49]⟩ (txt x) k (by decide) (by omega) (j.below h nlr);have c3:=fun k (h:Below w.heap.size w k)=>v7u ⟨#[49]⟩ (txt (1-x)) k (by decide) (by omega) (j.below h nlr);have C:x8m ⟨#[49]⟩ (txt x)=(txt (1-x),0):=by unfold x8m;rw[y8k,z2k i];exact z8p hf
  have E:y5n ⟨#[49]⟩ (txt (1-x))=limR (1 / (1-x)):=by unfold y5n;rw[y8k,z2k hf];exact if_neg D
  rw[C] at c2;rw[E] at c3;rw[e] at c1;rw[g];change Calls _ _ #[.string (txt x),_] _ _ at c1;change Calls _ _ #[.string (txt x)] _ _;generalize limR (1 / (1-x))=lr at *;obtain⟨ls,K⟩:=lr;generalize txt (1-x)=b at *;generalize txt x=a at *;have m:=qh c1;clear c1;have G:=qh c2;clear c2;have H:=qh c3;clear c3 j i d o s h e hf D g J F C E
  go_enter func163,ntmps163
  go_wp2_with fail
  refine nxa m.out fun B c=>?_
  go_wp2_with fail
  refine nxb (G.out _ c.out) c fun L l=>?_
  go_wp2_with fail
  refine nxb (H.out _ l.out) l fun N p=>?_;go_wp2;go_ret2;exact⟨rfl,p.out⟩
 have u:0<=cmpQ x 1:=by rcases h with ⟨_,e⟩|⟨_,e⟩<;>rw[e]<;>decide
 have g:limV (z1z 2 (.fin x))=(infS,0):=by rw[o,if_pos u];rfl
 rw[g];generalize cmpQ x 1=z at *;generalize vtxt (.fin x)=a at *;have m:=qh c1;clear c1 j i d o s h g;unfold infS
 go_enter func163,ntmps163
 go_wp2_with fail
 refine nxa m.out fun B c=>?_;go_wp2;go_ret2;exact⟨rfl,c.out⟩
end
section
open Go.RowKit
theorem v9x {k:Int} (c:k<1\/3<k) (a:ByteArray):vprs k a=none:=by
 cases h:vprs k a with
 | none=>rfl
 | some v=>have:=z4d (z3e.1 h).2;omega
theorem y0v {k:Int} (c:k<1\/3<k) (a:ByteArray):z0q k a=false:=by unfold z0q;rw[v9x c];rfl
theorem x9q {k:Int} {v:V} (h:wtV k v):k=1\/k=2\/k=3:=by cases v<;>simp only[wtV] at h<;>omega
theorem x8a {k:Int} (c:k<1\/3<k) (a:ByteArray):z0m k a=false:=by
 unfold z0m;cases rdV a with
 | none=>rfl
 | some v=>show decide (wtV k v)=false;rw[decide_eq_false_iff_not];intro h;have:=x9q h;omega
theorem v2x {k:Int} (c:k<1\/3<k):z3v k=false:=by unfold z3v;rw[Bool.and_eq_false_iff];simp;omega
theorem z3b (k:Int):k=1\/k=2\/k=3\/(k<1\/3<k):=by omega
theorem z3r {k:Int} {a:ByteArray} (h:z0q k a=true):∃ v,vprs k a=some v/\rdV a=some v/\okV k v/\a=vtxt v/\fitV v:=by
 unfold z0q at h;obtain⟨v,c⟩:=Option.isSome_iff_exists.1 h;obtain⟨d,g⟩:=z3e.1 c;exact⟨v,c,d,g,y2r d⟩
theorem y5i {k:Int} {a:ByteArray} (h:z0q k a=false):vprs k a=none:=by
 unfold z0q at h;cases c:vprs k a with
 | none=>rfl
 | some v=>rw[c] at h;simp at h
theorem y2s {k:Int} {a b:ByteArray} (h:z0q k a=false):z1k k a b=(⟨#[]⟩,1):=by unfold z1k;rw[y5i h];rfl
theorem y9h {k:Int} {a b:ByteArray} (h:z0q k b=false):z1k k a b=(⟨#[]⟩,1):=by unfold z1k;rw[y5i h];cases vprs k a<;>rfl
theorem y0y {k:Int} {a b:ByteArray} (h:z0q k a=false):z0g k a b=(⟨#[]⟩,1):=by unfold z0g;rw[y5i h];rfl
theorem y4u {k:Int} {a b:ByteArray} (h:z0q k b=false):z0g k a b=(⟨#[]⟩,1):=by unfold z0g;rw[y5i h];cases vprs k a<;>rfl
theorem y8g {k:Int} {a:ByteArray} (h:z0q k a=false):z5t k a=(⟨#[]⟩,1):=by unfold z5t;rw[y5i h];rfl
theorem z3s {w c:World} (h:Below (w.alloc (.cells #[.string ⟨#[105,110,102]⟩,.string ⟨#[48]⟩,.bool true,fv 157,fv 158,fv 159,fv 160,fv 160] 123)).heap.size (w.alloc (.cells #[.string ⟨#[105,110,102]⟩,.string ⟨#[48]⟩,.bool true,fv 157,fv 158,fv 159,fv 160,fv 160] 123)) c) :
  c.cell? ⟨w.heap.size,0,none⟩=some (.string ⟨#[105,110,102]⟩)/\c.cell? ⟨w.heap.size,1,none⟩=some (.string ⟨#[48]⟩)/\c.cell? ⟨w.heap.size,2,none⟩=some (.bool true)/\c.cell? ⟨w.heap.size,3,none⟩=some (fv 157)/\c.cell? ⟨w.heap.size,4,none⟩=some (fv 158)/\c.cell? ⟨w.heap.size,5,none⟩=some (fv 159)/\c.cell? ⟨w.heap.size,6,none⟩=some (fv 160)/\c.cell? ⟨w.heap.size,7,none⟩=some (fv 160) :=
 ⟨(cell_kept h 0).trans rfl,(cell_kept h 1).trans rfl,(cell_kept h 2).trans rfl,(cell_kept h 3).trans rfl,(cell_kept h 4).trans rfl,(cell_kept h 5).trans rfl,(cell_kept h 6).trans rfl,(cell_kept h 7).trans rfl⟩
theorem z3q {w c:World} (h:Below (w.alloc (.cells #[.string ⟨#[48]⟩,.string ⟨#[49]⟩,.bool false,fv 161,fv 162,fv 163,fv 164,fv 165] 123)).heap.size (w.alloc (.cells #[.string ⟨#[48]⟩,.string ⟨#[49]⟩,.bool false,fv 161,fv 162,fv 163,fv 164,fv 165] 123)) c) :
  c.cell? ⟨w.heap.size,0,none⟩=some (.string ⟨#[48]⟩)/\c.cell? ⟨w.heap.size,1,none⟩=some (.string ⟨#[49]⟩)/\c.cell? ⟨w.heap.size,2,none⟩=some (.bool false)/\c.cell? ⟨w.heap.size,3,none⟩=some (fv 161)/\c.cell? ⟨w.heap.size,4,none⟩=some (fv 162)/\c.cell? ⟨w.heap.size,5,none⟩=some (fv 163)/\c.cell? ⟨w.heap.size,6,none⟩=some (fv 164)/\c.cell? ⟨w.heap.size,7,none⟩=some (fv 165) :=
 ⟨(cell_kept h 0).trans rfl,(cell_kept h 1).trans rfl,(cell_kept h 2).trans rfl,(cell_kept h 3).trans rfl,(cell_kept h 4).trans rfl,(cell_kept h 5).trans rfl,(cell_kept h 6).trans rfl,(cell_kept h 7).trans rfl⟩
theorem z3n {w c:World} (h:Below (w.alloc (.cells #[.string ⟨#[48]⟩,.string ⟨#[49]⟩,.bool false,fv 157,fv 162,fv 166,fv 164,fv 165] 123)).heap.size (w.alloc (.cells #[.string ⟨#[48]⟩,.string ⟨#[49]⟩,.bool false,fv 157,fv 162,fv 166,fv 164,fv 165] 123)) c) :
  c.cell? ⟨w.heap.size,0,none⟩=some (.string ⟨#[48]⟩)/\c.cell? ⟨w.heap.size,1,none⟩=some (.string ⟨#[49]⟩)/\c.cell? ⟨w.heap.size,2,none⟩=some (.bool false)/\c.cell? ⟨w.heap.size,3,none⟩=some (fv 157)/\c.cell? ⟨w.heap.size,4,none⟩=some (fv 162)/\c.cell? ⟨w.heap.size,5,none⟩=some (fv 166)/\c.cell? ⟨w.heap.size,6,none⟩=some (fv 164)/\c.cell? ⟨w.heap.size,7,none⟩=some (fv 165) :=
 ⟨(cell_kept h 0).trans rfl,(cell_kept h 1).trans rfl,(cell_kept h 2).trans rfl,(cell_kept h 3).trans rfl,(cell_kept h 4).trans rfl,(cell_kept h 5).trans rfl,(cell_kept h 6).trans rfl,(cell_kept h 7).trans rfl⟩
theorem v7q (a:ByteArray) (w:World) (i:a.size<=9223372036854775807) (j:Tab w):Calls prog 154 #[.int .i64 1,.string a] w (BoolE (z0q 1 a) w):=by
 have c1:=fun g (h:Below w.heap.size w g)=>z5k a g i (j.below h nlr);generalize z0q 1 a=z at *;have c0:=of_1 w;unfold OfEnd at c0;unfold ring1 at *;have k:=qh c0;clear c0;have l:=qh c1;clear c1 i j
 go_enter func154,ntmps154
 go_wp2_with fail
 refine k.out.mono ?_;rintro e m ⟨rfl,hb⟩;have c:=qh (hb.alloc hb.size (.cells ring1 123));clear hb
 go_wp2_with fail
 refine nxb (l.out _ c.out) c fun o d=>?_;go_wp2;go_ret;exact⟨rfl,d.out⟩
theorem v7y (a:ByteArray) (w:World) (i:a.size<=9223372036854775807) (j:Tab w):Calls prog 154 #[.int .i64 2,.string a] w (BoolE (z0q 2 a) w):=by
 have c1:=fun g (h:Below w.heap.size w g)=>z5i a g i (j.below h nlr);generalize z0q 2 a=z at *;have c0:=of_2 w;unfold OfEnd at c0;unfold ring2 at *;have k:=qh c0;clear c0;have l:=qh c1;clear c1 i j
 go_enter func154,ntmps154
 go_wp2_with fail
 refine k.out.mono ?_;rintro e m ⟨rfl,hb⟩;have c:=qh (hb.alloc hb.size (.cells ring2 123));clear hb
 go_wp2_with fail
 refine nxb (l.out _ c.out) c fun o d=>?_;go_wp2;go_ret;exact⟨rfl,d.out⟩
theorem v6g (a:ByteArray) (w:World) (i:a.size<=9223372036854775807) (j:Tab w):Calls prog 154 #[.int .i64 3,.string a] w (BoolE (z0q 3 a) w):=by
 have c1:=fun g (h:Below w.heap.size w g)=>z5j a g i (j.below h nlr);generalize z0q 3 a=z at *;have c0:=of_3 w;unfold OfEnd at c0;unfold ring3 at *;have k:=qh c0;clear c0;have l:=qh c1;clear c1 i j
 go_enter func154,ntmps154
 go_wp2_with fail
 refine k.out.mono ?_;rintro e m ⟨rfl,hb⟩;have c:=qh (hb.alloc hb.size (.cells ring3 123));clear hb
 go_wp2_with fail
 refine nxb (l.out _ c.out) c fun o d=>?_;go_wp2;go_ret;exact⟨rfl,d.out⟩
theorem v2n (k:Int) (a:ByteArray) (w:World) (d:k<1\/3<k):Calls prog 154 #[.int .i64 k,.string a] w (BoolE (z0q k a) w):=by
 rw[y0v d];have c0:=x3j k w d;unfold OfEnd at c0;unfold ring0 at *;have g:=qh c0;clear c0
 go_enter func154,ntmps154
 go_wp2_with fail
 refine g.out.mono ?_;rintro e h ⟨rfl,hb⟩;have c:=qh (hb.alloc hb.size (.cells ring0 123));clear hb;go_wp2;go_ret;exact⟨rfl,c.out⟩
theorem y7f (k:Int) (a:ByteArray) (w:World) (d:a.size<=9223372036854775807) (c:Tab w):Calls prog 154 #[.int .i64 k,.string a] w (BoolE (z0q k a) w):=by
 rcases z3b k with rfl|rfl|rfl|g
 ·exact v7q a w d c
 ·exact v7y a w d c
 ·exact v6g a w d c
 exact v2n k a w g
theorem x8g (a:ByteArray) (w:World) (c:a.size<=9223372036854775807) (d:Tab w):Calls prog 160 #[.string a] w (BoolE (z0m 1 a) w):=by
 rw[v2i];exact y2c a w c d
theorem x9e (a:ByteArray) (w:World) (i:a.size<=9223372036854775807) (j:Tab w):Calls prog 75 #[.int .i64 1,.string a] w (BoolE (z0m 1 a) w):=by
 have c1:=fun g (h:Below w.heap.size w g)=>x8g a g i (j.below h nlr);generalize z0m 1 a=z at *;have c0:=of_1 w;unfold OfEnd at c0;unfold ring1 at *;have k:=qh c0;clear c0;have l:=qh c1;clear c1 i j
 go_enter func75,ntmps75
 go_wp2_with fail
 refine k.out.mono ?_;rintro e m ⟨rfl,hb⟩;have c:=qh (hb.alloc hb.size (.cells ring1 123));clear hb
 go_wp2_with fail
 refine nxb (l.out _ c.out) c fun o d=>?_;go_wp2;go_ret;exact⟨rfl,d.out⟩
theorem x7i (a:ByteArray) (w:World) (c:a.size<=9223372036854775807) (d:Tab w):Calls prog 165 #[.string a] w (BoolE (z0m 2 a) w):=by
 rw[y6h (k:=2) (by omega)];exact y2e a w c d
theorem v4a (a:ByteArray) (w:World) (i:a.size<=9223372036854775807) (j:Tab w):Calls prog 75 #[.int .i64 2,.string a] w (BoolE (z0m 2 a) w):=by
 have c1:=fun g (h:Below w.heap.size w g)=>x7i a g i (j.below h nlr);generalize z0m 2 a=z at *;have c0:=of_2 w;unfold OfEnd at c0;unfold ring2 at *;have k:=qh c0;clear c0;have l:=qh c1;clear c1 i j
 go_enter func75,ntmps75
 go_wp2_with fail
 refine k.out.mono ?_;rintro e m ⟨rfl,hb⟩;have c:=qh (hb.alloc hb.size (.cells ring2 123));clear hb
 go_wp2_with fail
 refine nxb (l.out _ c.out) c fun o d=>?_;go_wp2;go_ret;exact⟨rfl,d.out⟩
theorem x7n (a:ByteArray) (w:World) (c:a.size<=9223372036854775807) (d:Tab w):Calls prog 165 #[.string a] w (BoolE (z0m 3 a) w):=by
 rw[y6h (k:=3) (by omega)];exact y2e a w c d
theorem x8x (a:ByteArray) (w:World) (i:a.size<=9223372036854775807) (j:Tab w):Calls prog 75 #[.int .i64 3,.string a] w (BoolE (z0m 3 a) w):=by
 have c1:=fun g (h:Below w.heap.size w g)=>x7n a g i (j.below h nlr);generalize z0m 3 a=z at *;have c0:=of_3 w;unfold OfEnd at c0;unfold ring3 at *;have k:=qh c0;clear c0;have l:=qh c1;clear c1 i j
 go_enter func75,ntmps75
 go_wp2_with fail
 refine k.out.mono ?_;rintro e m ⟨rfl,hb⟩;have c:=qh (hb.alloc hb.size (.cells ring3 123));clear hb
 go_wp2_with fail
 refine nxb (l.out _ c.out) c fun o d=>?_;go_wp2;go_ret;exact⟨rfl,d.out⟩
theorem x7w (k:Int) (a:ByteArray) (w:World) (d:k<1\/3<k):Calls prog 75 #[.int .i64 k,.string a] w (BoolE (z0m k a) w):=by
 rw[x8a d];have c0:=x3j k w d;unfold OfEnd at c0;unfold ring0 at *;have g:=qh c0;clear c0
 go_enter func75,ntmps75
 go_wp2_with fail
 refine g.out.mono ?_;rintro e h ⟨rfl,hb⟩;have c:=qh (hb.alloc hb.size (.cells ring0 123));clear hb;go_wp2;go_ret;exact⟨rfl,c.out⟩
theorem z3g (k:Int) (a:ByteArray) (w:World) (d:a.size<=9223372036854775807) (c:Tab w):Calls prog 75 #[.int .i64 k,.string a] w (BoolE (z0m k a) w):=by
 rcases z3b k with rfl|rfl|rfl|g
 ·exact x9e a w d c
 ·exact v4a a w d c
 ·exact x8x a w d c
 exact x7w k a w g
theorem x9a:z0z 1=⟨#[105,110,102]⟩:=rfl
theorem x7v (w:World):Calls prog 122 #[.int .i64 1] w (StrE (z0z 1) w):=by
 rw[x9a];have c0:=of_1 w;unfold OfEnd at c0;unfold ring1 at *;have d:=qh c0;clear c0
 go_enter func122,ntmps122
 go_wp2_with fail
 refine d.out.mono ?_;rintro e g ⟨rfl,hb⟩;have c:=qh (hb.alloc hb.size (.cells ring1 123));clear hb;go_wp2;go_ret;exact⟨rfl,c.out⟩
theorem v2v:z0z 2=⟨#[48]⟩:=z6c
theorem x7g (w:World):Calls prog 122 #[.int .i64 2] w (StrE (z0z 2) w):=by
 rw[v2v];have c0:=of_2 w;unfold OfEnd at c0;unfold ring2 at *;have d:=qh c0;clear c0
 go_enter func122,ntmps122
 go_wp2_with fail
 refine d.out.mono ?_;rintro e g ⟨rfl,hb⟩;have c:=qh (hb.alloc hb.size (.cells ring2 123));clear hb;go_wp2;go_ret;exact⟨rfl,c.out⟩
theorem v0k:z0z 3=⟨#[48]⟩:=z6c
theorem x7t (w:World):Calls prog 122 #[.int .i64 3] w (StrE (z0z 3) w):=by
 rw[v0k];have c0:=of_3 w;unfold OfEnd at c0;unfold ring3 at *;have d:=qh c0;clear c0
 go_enter func122,ntmps122
 go_wp2_with fail
 refine d.out.mono ?_;rintro e g ⟨rfl,hb⟩;have c:=qh (hb.alloc hb.size (.cells ring3 123));clear hb;go_wp2;go_ret;exact⟨rfl,c.out⟩
theorem x6f {k:Int} (c:k<1\/3<k):z0z k=⟨#[]⟩:=by unfold z0z;rw[v2x c];rfl
theorem x2c (k:Int) (w:World) (d:k<1\/3<k):Calls prog 122 #[.int .i64 k] w (StrE (z0z k) w):=by
 rw[x6f d];have c0:=x3j k w d;unfold OfEnd at c0;unfold ring0 at *;have g:=qh c0;clear c0
 go_enter func122,ntmps122
 go_wp2_with fail
 refine g.out.mono ?_;rintro e h ⟨rfl,hb⟩;have c:=qh (hb.alloc hb.size (.cells ring0 123));clear hb;go_wp2;go_ret;exact⟨rfl,c.out⟩
theorem z2u (k:Int) (w:World):Calls prog 122 #[.int .i64 k] w (StrE (z0z k) w):=by
 rcases z3b k with rfl|rfl|rfl|c
 ·exact x7v w
 ·exact x7g w
 ·exact x7t w
 exact x2c k w c
theorem v9j:oneF 1=⟨#[48]⟩:=z6c
theorem v0w (w:World):Calls prog 60 #[.int .i64 1] w (StrE (oneF 1) w):=by
 rw[v9j];have c0:=of_1 w;unfold OfEnd at c0;unfold ring1 at *;have d:=qh c0;clear c0
 go_enter func60,ntmps60
 go_wp2_with fail
 refine d.out.mono ?_;rintro e g ⟨rfl,hb⟩;have c:=qh (hb.alloc hb.size (.cells ring1 123));clear hb;go_wp2;go_ret;exact⟨rfl,c.out⟩
theorem v9n:oneF 2=⟨#[49]⟩:=y4b
theorem v3q (w:World):Calls prog 60 #[.int .i64 2] w (StrE (oneF 2) w):=by
 rw[v9n];have c0:=of_2 w;unfold OfEnd at c0;unfold ring2 at *;have d:=qh c0;clear c0
 go_enter func60,ntmps60
 go_wp2_with fail
 refine d.out.mono ?_;rintro e g ⟨rfl,hb⟩;have c:=qh (hb.alloc hb.size (.cells ring2 123));clear hb;go_wp2;go_ret;exact⟨rfl,c.out⟩
theorem v9a:oneF 3=⟨#[49]⟩:=y4b
theorem v1t (w:World):Calls prog 60 #[.int .i64 3] w (StrE (oneF 3) w):=by
 rw[v9a];have c0:=of_3 w;unfold OfEnd at c0;unfold ring3 at *;have d:=qh c0;clear c0
 go_enter func60,ntmps60
 go_wp2_with fail
 refine d.out.mono ?_;rintro e g ⟨rfl,hb⟩;have c:=qh (hb.alloc hb.size (.cells ring3 123));clear hb;go_wp2;go_ret;exact⟨rfl,c.out⟩
theorem v2y {k:Int} (c:k<1\/3<k):oneF k=⟨#[]⟩:=by unfold oneF;rw[v2x c];rfl
theorem x7r (k:Int) (w:World) (d:k<1\/3<k):Calls prog 60 #[.int .i64 k] w (StrE (oneF k) w):=by
 rw[v2y d];have c0:=x3j k w d;unfold OfEnd at c0;unfold ring0 at *;have g:=qh c0;clear c0
 go_enter func60,ntmps60
 go_wp2_with fail
 refine g.out.mono ?_;rintro e h ⟨rfl,hb⟩;have c:=qh (hb.alloc hb.size (.cells ring0 123));clear hb;go_wp2;go_ret;exact⟨rfl,c.out⟩
theorem z7f (k:Int) (w:World):Calls prog 60 #[.int .i64 k] w (StrE (oneF k) w):=by
 rcases z3b k with rfl|rfl|rfl|c
 ·exact v0w w
 ·exact v3q w
 ·exact v1t w
 exact x7r k w c
theorem v9p (a b:ByteArray) (w:World) (z:a.size<=9223372036854775807) (hb:b.size<=9223372036854775807) (m:Tab w):Calls prog 153 #[.int .i64 1,.string a,.string b] w (PairEnd (z1k 1 a b) w):=by
 have c1:=fun j (h:Below w.heap.size w j)=>z5k a j z (m.below h nlr);have c2:=fun j (h:Below w.heap.size w j)=>z5k b j hb (m.below h nlr);cases k:z0q 1 a with
 | false =>
  rw[y2s k];rw[k] at c1;clear k c2 z hb m;have c0:=of_1 w;unfold OfEnd at c0;unfold ring1 at *;have s:=qh c0;clear c0;have o:=qh c1;clear c1
  go_enter func153,ntmps153
  go_wp2_with fail
  refine s.out.mono ?_;rintro e G ⟨rfl,hb⟩;have c:=qh (hb.alloc hb.size (.cells ring1 123));clear hb
  go_wp2_with fail
  refine nxb (o.out _ c.out) c fun H d=>?_;go_wp2;go_ret2;exact⟨rfl,d.out⟩
 | true =>
  cases l:z0q 1 b with
  | false =>
   rw[y9h l];rw[k] at c1;rw[l] at c2;clear k l z hb m;have c0:=of_1 w;unfold OfEnd at c0;unfold ring1 at *;have s:=qh c0;clear c0;have o:=qh c1;clear c1;have D:=qh c2;clear c2
   go_enter func153,ntmps153
   go_wp2_with fail
   refine s.out.mono ?_;rintro e G ⟨rfl,hb⟩;have c:=qh (hb.alloc hb.size (.cells ring1 123));clear hb
   go_wp2_with fail
   refine(o.out _ c.out).mono ?_;rintro e H ⟨rfl,hb⟩;have i:=qh (hb);have d:=qh (z0a c.out hb);clear hb;obtain⟨q0,q1,q2,q3,q4,q5,q6,B⟩:=z3s i.out
   go_wp2_with fail
   refine nxb (D.out _ d.out) d fun R g=>?_;go_wp2;go_ret2;exact⟨rfl,g.out⟩
  | true =>
   rw[k] at c1;rw[l] at c2;obtain⟨v,F,rv,Q,L,p⟩:=z3r k;obtain⟨u,K,P,O,E,J⟩:=z3r l;clear k l;have I:z1k 1 a b=limV (z1p 1 v u):=by unfold z1k;rw[F,K]
   have c3:=fun j (h:Below w.heap.size w j)=>x3f v u j p J (m.below h nlr);rw[<- L,<- E,<- I] at c3;generalize z1k 1 a b=r at *;obtain⟨S,T⟩:=r;clear I F rv Q L p K P O E J z hb m;have c0:=of_1 w;unfold OfEnd at c0;unfold ring1 at *;have s:=qh c0;clear c0;have o:=qh c1;clear c1;have D:=qh c2;clear c2;have N:=qh c3;clear c3
   go_enter func153,ntmps153
   go_wp2_with fail
   refine s.out.mono ?_;rintro e G ⟨rfl,hb⟩;have c:=qh (hb.alloc hb.size (.cells ring1 123));clear hb
   go_wp2_with fail
   refine(o.out _ c.out).mono ?_;rintro e H ⟨rfl,hb⟩;have i:=qh (hb);have d:=qh (z0a c.out hb);clear hb;obtain⟨q0,q1,q2,q3,q4,q5,q6,B⟩:=z3s i.out
   go_wp2_with fail
   refine(D.out _ d.out).mono ?_;rintro e R ⟨rfl,hb⟩;clear q0 q1 q2 q3 q4 q5 q6 B;have A:=qh (z0a i.out hb);have g:=qh (z0a d.out hb);clear hb;obtain⟨q0,q1,q2,q3,q4,q5,q6,B⟩:=z3s A.out
   go_wp2_with fail
   refine nxb (N.out _ g.out) g fun U C=>?_;go_wp2;go_ret2;exact⟨rfl,C.out⟩
theorem u2v (a b:ByteArray) (w:World) (z:a.size<=9223372036854775807) (hb:b.size<=9223372036854775807) (m:Tab w):Calls prog 153 #[.int .i64 2,.string a,.string b] w (PairEnd (z1k 2 a b) w):=by
 have c1:=fun j (h:Below w.heap.size w j)=>z5i a j z (m.below h nlr);have c2:=fun j (h:Below w.heap.size w j)=>z5i b j hb (m.below h nlr);cases k:z0q 2 a with
 | false =>
  rw[y2s k];rw[k] at c1;clear k c2 z hb m;have c0:=of_2 w;unfold OfEnd at c0;unfold ring2 at *;have s:=qh c0;clear c0;have o:=qh c1;clear c1
  go_enter func153,ntmps153
  go_wp2_with fail
  refine s.out.mono ?_;rintro e H ⟨rfl,hb⟩;have c:=qh (hb.alloc hb.size (.cells ring2 123));clear hb
  go_wp2_with fail
  refine nxb (o.out _ c.out) c fun I d=>?_;go_wp2;go_ret2;exact⟨rfl,d.out⟩
 | true =>
  cases l:z0q 2 b with
  | false =>
   rw[y9h l];rw[k] at c1;rw[l] at c2;clear k l z hb m;have c0:=of_2 w;unfold OfEnd at c0;unfold ring2 at *;have s:=qh c0;clear c0;have o:=qh c1;clear c1;have D:=qh c2;clear c2
   go_enter func153,ntmps153
   go_wp2_with fail
   refine s.out.mono ?_;rintro e H ⟨rfl,hb⟩;have c:=qh (hb.alloc hb.size (.cells ring2 123));clear hb
   go_wp2_with fail
   refine(o.out _ c.out).mono ?_;rintro e I ⟨rfl,hb⟩;have i:=qh (hb);have d:=qh (z0a c.out hb);clear hb;obtain⟨q0,q1,q2,q3,q4,q5,q6,B⟩:=z3q i.out
   go_wp2_with fail
   refine nxb (D.out _ d.out) d fun R g=>?_;go_wp2;go_ret2;exact⟨rfl,g.out⟩
  | true =>
   rw[k] at c1;rw[l] at c2;obtain⟨v,F,rv,N,O,p⟩:=z3r k;obtain⟨u,L,Q,G,E,K⟩:=z3r l;clear k l;have J:z1k 2 a b=limV (z1p 2 v u):=by unfold z1k;rw[F,L]
   have c3:=fun j (h:Below w.heap.size w j)=>u3k v u j p K (z0r N (by decide)) (z0r G (by decide)) (m.below h nlr);rw[<- O,<- E,<- J] at c3;generalize z1k 2 a b=r at *;obtain⟨S,T⟩:=r;clear J F rv N O p L Q G E K z hb m;have c0:=of_2 w;unfold OfEnd at c0;unfold ring2 at *;have s:=qh c0;clear c0;have o:=qh c1;clear c1;have D:=qh c2;clear c2;have P:=qh c3;clear c3
   go_enter func153,ntmps153
   go_wp2_with fail
   refine s.out.mono ?_;rintro e H ⟨rfl,hb⟩;have c:=qh (hb.alloc hb.size (.cells ring2 123));clear hb
   go_wp2_with fail
   refine(o.out _ c.out).mono ?_;rintro e I ⟨rfl,hb⟩;have i:=qh (hb);have d:=qh (z0a c.out hb);clear hb;obtain⟨q0,q1,q2,q3,q4,q5,q6,B⟩:=z3q i.out
   go_wp2_with fail
   refine(D.out _ d.out).mono ?_;rintro e R ⟨rfl,hb⟩;clear q0 q1 q2 q3 q4 q5 q6 B;have A:=qh (z0a i.out hb);have g:=qh (z0a d.out hb);clear hb;obtain⟨q0,q1,q2,q3,q4,q5,q6,B⟩:=z3q A.out
   go_wp2_with fail
   refine nxb (P.out _ g.out) g fun U C=>?_;go_wp2;go_ret2;exact⟨rfl,C.out⟩
theorem u0x (a b:ByteArray) (w:World) (z:a.size<=9223372036854775807) (hb:b.size<=9223372036854775807) (m:Tab w):Calls prog 153 #[.int .i64 3,.string a,.string b] w (PairEnd (z1k 3 a b) w):=by
 have c1:=fun j (h:Below w.heap.size w j)=>z5j a j z (m.below h nlr);have c2:=fun j (h:Below w.heap.size w j)=>z5j b j hb (m.below h nlr);cases k:z0q 3 a with
 | false =>
  rw[y2s k];rw[k] at c1;clear k c2 z hb m;have c0:=of_3 w;unfold OfEnd at c0;unfold ring3 at *;have s:=qh c0;clear c0;have o:=qh c1;clear c1
  go_enter func153,ntmps153
  go_wp2_with fail
  refine s.out.mono ?_;rintro e G ⟨rfl,hb⟩;have c:=qh (hb.alloc hb.size (.cells ring3 123));clear hb
  go_wp2_with fail
  refine nxb (o.out _ c.out) c fun H d=>?_;go_wp2;go_ret2;exact⟨rfl,d.out⟩
 | true =>
  cases l:z0q 3 b with
  | false =>
   rw[y9h l];rw[k] at c1;rw[l] at c2;clear k l z hb m;have c0:=of_3 w;unfold OfEnd at c0;unfold ring3 at *;have s:=qh c0;clear c0;have o:=qh c1;clear c1;have D:=qh c2;clear c2
   go_enter func153,ntmps153
   go_wp2_with fail
   refine s.out.mono ?_;rintro e G ⟨rfl,hb⟩;have c:=qh (hb.alloc hb.size (.cells ring3 123));clear hb
   go_wp2_with fail
   refine(o.out _ c.out).mono ?_;rintro e H ⟨rfl,hb⟩;have i:=qh (hb);have d:=qh (z0a c.out hb);clear hb;obtain⟨q0,q1,q2,q3,q4,q5,q6,B⟩:=z3n i.out
   go_wp2_with fail
   refine nxb (D.out _ d.out) d fun R g=>?_;go_wp2;go_ret2;exact⟨rfl,g.out⟩
  | true =>
   rw[k] at c1;rw[l] at c2;obtain⟨v,F,rv,Q,L,p⟩:=z3r k;obtain⟨u,K,P,O,E,J⟩:=z3r l;clear k l;have I:z1k 3 a b=limV (z1p 3 v u):=by unfold z1k;rw[F,K]
   have c3:=fun j (h:Below w.heap.size w j)=>x2e v u j p J (m.below h nlr);rw[<- L,<- E,<- I] at c3;generalize z1k 3 a b=r at *;obtain⟨S,T⟩:=r;clear I F rv Q L p K P O E J z hb m;have c0:=of_3 w;unfold OfEnd at c0;unfold ring3 at *;have s:=qh c0;clear c0;have o:=qh c1;clear c1;have D:=qh c2;clear c2;have N:=qh c3;clear c3
   go_enter func153,ntmps153
   go_wp2_with fail
   refine s.out.mono ?_;rintro e G ⟨rfl,hb⟩;have c:=qh (hb.alloc hb.size (.cells ring3 123));clear hb
   go_wp2_with fail
   refine(o.out _ c.out).mono ?_;rintro e H ⟨rfl,hb⟩;have i:=qh (hb);have d:=qh (z0a c.out hb);clear hb;obtain⟨q0,q1,q2,q3,q4,q5,q6,B⟩:=z3n i.out
   go_wp2_with fail
   refine(D.out _ d.out).mono ?_;rintro e R ⟨rfl,hb⟩;clear q0 q1 q2 q3 q4 q5 q6 B;have A:=qh (z0a i.out hb);have g:=qh (z0a d.out hb);clear hb;obtain⟨q0,q1,q2,q3,q4,q5,q6,B⟩:=z3n A.out
   go_wp2_with fail
   refine nxb (N.out _ g.out) g fun U C=>?_;go_wp2;go_ret2;exact⟨rfl,C.out⟩
theorem v7g (k:Int) (a b:ByteArray) (w:World) (d:k<1\/3<k):Calls prog 153 #[.int .i64 k,.string a,.string b] w (PairEnd (z1k k a b) w):=by
 rw[y2s (y0v d a)];have c0:=x3j k w d;unfold OfEnd at c0;unfold ring0 at *;have g:=qh c0;clear c0
 go_enter func153,ntmps153
 go_wp2_with fail
 refine g.out.mono ?_;rintro e h ⟨rfl,hb⟩;have c:=qh (hb.alloc hb.size (.cells ring0 123));clear hb;go_wp2;go_ret2;exact⟨rfl,c.out⟩
theorem y2b (k:Int) (a b:ByteArray) (w:World) (c:a.size<=9223372036854775807) (hb:b.size<=9223372036854775807) (d:Tab w):Calls prog 153 #[.int .i64 k,.string a,.string b] w (PairEnd (z1k k a b) w):=by
 rcases z3b k with rfl|rfl|rfl|g
 ·exact v9p a b w c hb d
 ·exact u2v a b w c hb d
 ·exact u0x a b w c hb d
 exact v7g k a b w g
end
section
open Go.RowKit
theorem u1w (a:ByteArray) (w:World) (l:a.size<=9223372036854775807) (k:Tab w):Calls prog 216 #[.int .i64 1,.string a] w (PairEnd (z5t 1 a) w):=by
 have c1:=fun i (h:Below w.heap.size w i)=>z5k a i l (k.below h nlr);cases g:z0q 1 a with
 | false =>
  rw[y8g g];rw[g] at c1;clear g l k;have c0:=of_1 w;unfold OfEnd at c0;unfold ring1 at *;have p:=qh c0;clear c0;have o:=qh c1;clear c1
  go_enter func216,ntmps216
  go_wp2_with fail
  refine p.out.mono ?_;rintro e C ⟨rfl,hb⟩;have c:=qh (hb.alloc hb.size (.cells ring1 123));clear hb
  go_wp2_with fail
  refine nxb (o.out _ c.out) c fun D d=>?_;go_wp2;go_ret2;exact⟨rfl,d.out⟩
 | true =>
  rw[g] at c1;obtain⟨v,u,rv,E,A,j⟩:=z3r g;have z:z5t 1 a=limV (z1z 1 v):=by unfold z5t;rw[u]
  have c3:=fun i (h:Below w.heap.size w i)=>x3c v i j (k.below h nlr);rw[<- A,<- z] at c3;generalize z5t 1 a=r at *;obtain⟨F,H⟩:=r;clear g z u rv E A j l k;have c0:=of_1 w;unfold OfEnd at c0;unfold ring1 at *;have p:=qh c0;clear c0;have o:=qh c1;clear c1;have B:=qh c3;clear c3
  go_enter func216,ntmps216
  go_wp2_with fail
  refine p.out.mono ?_;rintro e C ⟨rfl,hb⟩;have c:=qh (hb.alloc hb.size (.cells ring1 123));clear hb
  go_wp2_with fail
  refine(o.out _ c.out).mono ?_;rintro e D ⟨rfl,hb⟩;have s:=qh (hb);have d:=qh (z0a c.out hb);clear hb;obtain⟨q0,q1,q2,q3,q4,q5,q6,G⟩:=z3s s.out
  go_wp2_with fail
  refine nxb (B.out _ d.out) d fun I m=>?_;go_wp2;go_ret2;exact⟨rfl,m.out⟩
theorem v9u (a:ByteArray) (w:World) (l:a.size<=9223372036854775807) (k:Tab w):Calls prog 216 #[.int .i64 2,.string a] w (PairEnd (z5t 2 a) w):=by
 have c1:=fun i (h:Below w.heap.size w i)=>z5i a i l (k.below h nlr);cases g:z0q 2 a with
 | false =>
  rw[y8g g];rw[g] at c1;clear g l k;have c0:=of_2 w;unfold OfEnd at c0;unfold ring2 at *;have p:=qh c0;clear c0;have o:=qh c1;clear c1
  go_enter func216,ntmps216
  go_wp2_with fail
  refine p.out.mono ?_;rintro e D ⟨rfl,hb⟩;have c:=qh (hb.alloc hb.size (.cells ring2 123));clear hb
  go_wp2_with fail
  refine nxb (o.out _ c.out) c fun E d=>?_;go_wp2;go_ret2;exact⟨rfl,d.out⟩
 | true =>
  rw[g] at c1;obtain⟨v,u,rv,A,B,j⟩:=z3r g;have z:z5t 2 a=limV (z1z 2 v):=by unfold z5t;rw[u]
  have c3:=fun i (h:Below w.heap.size w i)=>x2q v i j A (k.below h nlr);rw[<- B,<- z] at c3;generalize z5t 2 a=r at *;obtain⟨F,H⟩:=r;clear g z u rv A B j l k;have c0:=of_2 w;unfold OfEnd at c0;unfold ring2 at *;have p:=qh c0;clear c0;have o:=qh c1;clear c1;have C:=qh c3;clear c3
  go_enter func216,ntmps216
  go_wp2_with fail
  refine p.out.mono ?_;rintro e D ⟨rfl,hb⟩;have c:=qh (hb.alloc hb.size (.cells ring2 123));clear hb
  go_wp2_with fail
  refine(o.out _ c.out).mono ?_;rintro e E ⟨rfl,hb⟩;have s:=qh (hb);have d:=qh (z0a c.out hb);clear hb;obtain⟨q0,q1,q2,q3,q4,q5,q6,G⟩:=z3q s.out
  go_wp2_with fail
  refine nxb (C.out _ d.out) d fun I m=>?_;go_wp2;go_ret2;exact⟨rfl,m.out⟩
theorem u2f (a:ByteArray) (w:World) (l:a.size<=9223372036854775807) (k:Tab w):Calls prog 216 #[.int .i64 3,.string a] w (PairEnd (z5t 3 a) w):=by
 have c1:=fun i (h:Below w.heap.size w i)=>z5j a i l (k.below h nlr);cases g:z0q 3 a with
 | false =>
  rw[y8g g];rw[g] at c1;clear g l k;have c0:=of_3 w;unfold OfEnd at c0;unfold ring3 at *;have p:=qh c0;clear c0;have o:=qh c1;clear c1
  go_enter func216,ntmps216
  go_wp2_with fail
  refine p.out.mono ?_;rintro e C ⟨rfl,hb⟩;have c:=qh (hb.alloc hb.size (.cells ring3 123));clear hb
  go_wp2_with fail
  refine nxb (o.out _ c.out) c fun D d=>?_;go_wp2;go_ret2;exact⟨rfl,d.out⟩
 | true =>
  rw[g] at c1;obtain⟨v,u,rv,E,A,j⟩:=z3r g;have z:z5t 3 a=limV (z1z 3 v):=by unfold z5t;rw[u]
  have c3:=fun i (h:Below w.heap.size w i)=>y9s v i j (k.below h nlr);rw[<- A,<- z] at c3;generalize z5t 3 a=r at *;obtain⟨F,H⟩:=r;clear g z u rv E A j l k;have c0:=of_3 w;unfold OfEnd at c0;unfold ring3 at *;have p:=qh c0;clear c0;have o:=qh c1;clear c1;have B:=qh c3;clear c3
  go_enter func216,ntmps216
  go_wp2_with fail
  refine p.out.mono ?_;rintro e C ⟨rfl,hb⟩;have c:=qh (hb.alloc hb.size (.cells ring3 123));clear hb
  go_wp2_with fail
  refine(o.out _ c.out).mono ?_;rintro e D ⟨rfl,hb⟩;have s:=qh (hb);have d:=qh (z0a c.out hb);clear hb;obtain⟨q0,q1,q2,q3,q4,q5,q6,G⟩:=z3n s.out
  go_wp2_with fail
  refine nxb (B.out _ d.out) d fun I m=>?_;go_wp2;go_ret2;exact⟨rfl,m.out⟩
theorem v7i (k:Int) (a:ByteArray) (w:World) (d:k<1\/3<k):Calls prog 216 #[.int .i64 k,.string a] w (PairEnd (z5t k a) w):=by
 rw[y8g (y0v d a)];have c0:=x3j k w d;unfold OfEnd at c0;unfold ring0 at *;have g:=qh c0;clear c0
 go_enter func216,ntmps216
 go_wp2_with fail
 refine g.out.mono ?_;rintro e h ⟨rfl,hb⟩;have c:=qh (hb.alloc hb.size (.cells ring0 123));clear hb;go_wp2;go_ret2;exact⟨rfl,c.out⟩
theorem x1j (k:Int) (a:ByteArray) (w:World) (d:a.size<=9223372036854775807) (c:Tab w):Calls prog 216 #[.int .i64 k,.string a] w (PairEnd (z5t k a) w):=by
 rcases z3b k with rfl|rfl|rfl|g
 ·exact u1w a w d c
 ·exact v9u a w d c
 ·exact u2f a w d c
 exact v7i k a w g
end
section
open Go.RowKit
end
section
open Go.RowKit
theorem index3a0 (w:World):(Instr.index 126 (.agg #[.string ⟨#[105,110,102]⟩,.string ⟨#[105,110,102]⟩,.string ⟨#[45,105,110,102]⟩]) (.int .i64 0)).run prog w=.ok (.string ⟨#[105,110,102]⟩) w:=by kernel_rfl
theorem index3a1 (w:World):(Instr.index 126 (.agg #[.string ⟨#[105,110,102]⟩,.string ⟨#[105,110,102]⟩,.string ⟨#[45,105,110,102]⟩]) (.int .i64 1)).run prog w=.ok (.string ⟨#[105,110,102]⟩) w:=by kernel_rfl
theorem index3a2 (w:World):(Instr.index 126 (.agg #[.string ⟨#[105,110,102]⟩,.string ⟨#[105,110,102]⟩,.string ⟨#[45,105,110,102]⟩]) (.int .i64 2)).run prog w=.ok (.string ⟨#[45,105,110,102]⟩) w:=by kernel_rfl
theorem index3b0 (w:World):(Instr.index 126 (.agg #[.string ⟨#[48]⟩,.string ⟨#[105,110,102]⟩,.string ⟨#[45,105,110,102]⟩]) (.int .i64 0)).run prog w=.ok (.string ⟨#[48]⟩) w:=by kernel_rfl
theorem index3b1 (w:World):(Instr.index 126 (.agg #[.string ⟨#[48]⟩,.string ⟨#[105,110,102]⟩,.string ⟨#[45,105,110,102]⟩]) (.int .i64 1)).run prog w=.ok (.string ⟨#[105,110,102]⟩) w:=by kernel_rfl
theorem index3b2 (w:World):(Instr.index 126 (.agg #[.string ⟨#[48]⟩,.string ⟨#[105,110,102]⟩,.string ⟨#[45,105,110,102]⟩]) (.int .i64 2)).run prog w=.ok (.string ⟨#[45,105,110,102]⟩) w:=by kernel_rfl
theorem x7h {v:V} (h:fitV v):((vtxt v).toList==[105,110,102])=decide (v=.inf):=by
 cases v with
 | inf=>show (infS.toList==_)=_;rw[z2z];rfl
 | low=>show (lowS.toList==_)=_;rw[z5u];rfl
 | fin q=>show ((txt q).toList==_)=_;rw[z8y h];rfl
theorem x8h {v:V} (h:fitV v):((vtxt v).toList==[45,105,110,102])=decide (v=.low):=by
 cases v with
 | inf=>show (infS.toList==_)=_;rw[z2z];rfl
 | low=>show (lowS.toList==_)=_;rw[z5u];rfl
 | fin q=>show ((txt q).toList==_)=_;rw[y6j h];rfl
theorem y5x {v:V} (h:fitV v):((vtxt v).toList==[48])=decide (v=.fin 0):=by
 cases v with
 | inf=>show (infS.toList==_)=_;rw[z2z];rfl
 | low=>show (lowS.toList==_)=_;rw[z5u];rfl
 | fin q =>
  show ((txt q).toList==_)=_;by_cases c:q=0
  ·subst c;rw[z6c,Lib.toList_data];simp
  rw[decide_eq_false (fun e=>c (by injection e))];exact z4n (l:=[48]) (fun e=>c (u0v h y2t (e.trans z6c.symm)))
theorem z8n:limV .inf=(⟨#[105,110,102]⟩,0):=rfl
theorem x5c:limV .low=(⟨#[45,105,110,102]⟩,0):=rfl
theorem y0b:limV (.fin 0)=(⟨#[48]⟩,0):=(z8p y2t).trans (by rw[z6c])
theorem v6k (a b:ByteArray) (w:World) (N:a.size<=9223372036854775807) (hb:b.size<=9223372036854775807) (D:Tab w):Calls prog 44 #[.int .i64 1,.string a,.string b] w (PairEnd (z0g 1 a b) w):=by
 have c1:=fun z (h:Below w.heap.size w z)=>z5k a z N (D.below h nlr);have c2:=fun z (h:Below w.heap.size w z)=>z5k b z hb (D.below h nlr);cases s:z0q 1 a with
 | false =>
  rw[y0y s];rw[s] at c1;clear s c2 N hb D;have c0:=of_1 w;unfold OfEnd at c0;unfold ring1 at *;have H:=qh c0;clear c0;have J:=qh c1;clear c1
  go_enter func44,ntmps44
  go_wp2_with fail
  refine H.out.mono ?_;rintro e w1 ⟨rfl,hb⟩;have c:=qh (hb.alloc hb.size (.cells ring1 123));clear hb
  go_wp2_with fail
  refine nxb (J.out _ c.out) c fun w2 g=>?_;go_wp2;go_ret2;exact⟨rfl,g.out⟩
 | true =>
  cases E:z0q 1 b with
  | false =>
   rw[y4u E];rw[s] at c1;rw[E] at c2;clear s E N hb D;have c0:=of_1 w;unfold OfEnd at c0;unfold ring1 at *;have H:=qh c0;clear c0;have J:=qh c1;clear c1;have C2:=qh c2;clear c2
   go_enter func44,ntmps44
   go_wp2_with fail
   refine H.out.mono ?_;rintro e w1 ⟨rfl,hb⟩;have c:=qh (hb.alloc hb.size (.cells ring1 123));clear hb
   go_wp2_with fail
   refine(J.out _ c.out).mono ?_;rintro e w2 ⟨rfl,hb⟩;have p:=qh (hb);have g:=qh (z0a c.out hb);clear hb;obtain⟨q0,q1,q2,q3,q4,q5,q6,q7⟩:=z3s p.out
   go_wp2_with fail
   refine nxb (C2.out _ g.out) g fun w3 d=>?_;go_wp2;go_ret2;exact⟨rfl,d.out⟩
  | true =>
   rw[s] at c1;rw[E] at c2;obtain⟨v,pv,rv,ov,W,j⟩:=z3r s;obtain⟨u,pu,ru,ou,Y,G⟩:=z3r E;clear s E;have hr:z0g 1 a b=limV (z0i 1 v u):=by unfold z0g;rw[pv,pu]
   have P:=index3a0;have T:=index3a1;have Q:=index3a2;have F:=x7h j;have A:=x8h j;have l:=y5x j;have C:=x7h G;have o:=x8h G;have m:=y5x G;rw[<- W] at F A l;rw[<- Y] at C o m;have c0:=of_1 w;unfold OfEnd at c0;unfold ring1 at *;have H:=qh c0;clear c0;have J:=qh c1;clear c1;have C2:=qh c2;clear c2;rw[hr];obtain⟨r,B⟩:=exq (limV (z0i 1 v u));rw[<- B];obtain⟨K,I⟩:=r;have k:=qh B;clear B;have HX:=qh (And.intro P (And.intro T Q));clear P T Q;have X:=qh (And.intro F (And.intro A l));clear F A l;have U:=qh (And.intro C (And.intro o m));clear C o m;have EA:=qh W;have EB:=qh Y;have FA:=qh j;have FB:=qh G;have OV:=qh ov;have OU:=qh ou;clear hr pv rv ov W j pu ru ou Y G N hb;have HT:=qh D;clear D
   go_enter func44,ntmps44
   go_wp2_with fail
   refine H.out.mono ?_;rintro e w1 ⟨rfl,hb⟩;have c:=qh (hb.alloc hb.size (.cells ring1 123));clear hb
   go_wp2_with fail
   refine(J.out _ c.out).mono ?_;rintro e w2 ⟨rfl,hb⟩;have p:=qh (hb);have g:=qh (z0a c.out hb);clear hb;obtain⟨q0,q1,q2,q3,q4,q5,q6,q7⟩:=z3s p.out
   go_wp2_with fail
   refine(C2.out _ g.out).mono ?_;rintro e w3 ⟨rfl,hb⟩;clear q0 q1 q2 q3 q4 q5 q6 q7;have Z:=qh (z0a p.out hb);have d:=qh (z0a g.out hb);clear hb;obtain⟨q0,q1,q2,q3,q4,q5,q6,q7⟩:=z3s Z.out
   go_wp2_with fail
   obtain⟨P,T,Q⟩:=HX.out;obtain⟨F,A,l⟩:=X.out;obtain⟨C,o,m⟩:=U.out;by_cases v1:v=.inf
   ·subst v1;simp only[decide_true] at F;clear A l C o m;have i:K=⟨#[105,110,102]⟩/\I=0:=by
     have:=k.out;rw[show z0i 1 _ _=.inf from by rw[times1],z8n] at this;injection this with e1 e2;exact⟨e1,e2⟩
    obtain⟨rfl,rfl⟩:=i;refine wp_loop_rounds 4 ?_;rw[rounds_succ];go_wp2;go_ret2;exact⟨rfl,d.out⟩
   rw[decide_eq_false v1] at F;by_cases L:u=.inf
   ·subst L;simp only[decide_true] at C;clear A l o m;have i:K=⟨#[105,110,102]⟩/\I=0:=by
     have:=k.out;rw[show z0i 1 _ _=.inf from by rw[times1];cases v<;>first|rfl|exact absurd rfl v1,z8n] at this
     injection this with e1 e2;exact⟨e1,e2⟩
    obtain⟨rfl,rfl⟩:=i;refine wp_loop_rounds 4 ?_;rw[rounds_succ];go_wp2;go_ret2;exact⟨rfl,d.out⟩
   rw[decide_eq_false L] at C;by_cases S:v=.low
   ·subst S;simp only[decide_true] at A;clear l o m;have i:K=⟨#[45,105,110,102]⟩/\I=0:=by
     have:=k.out;rw[show z0i 1 _ _=.low from by rw[times1];cases u<;>first|rfl|exact absurd rfl L,x5c] at this
     injection this with e1 e2;exact⟨e1,e2⟩
    obtain⟨rfl,rfl⟩:=i;refine wp_loop_rounds 4 ?_;rw[rounds_succ];go_wp2_with fail;rw[rounds_succ];go_wp2_with fail;rw[rounds_succ];go_wp2;go_ret2;exact⟨rfl,d.out⟩
   rw[decide_eq_false S] at A;by_cases O:u=.low
   ·subst O;simp only[decide_true] at o;clear l m;have i:K=⟨#[45,105,110,102]⟩/\I=0:=by
     have:=k.out;rw[show z0i 1 _ _=.low from by rw[times1];cases v<;>first|rfl|exact absurd rfl v1,x5c] at this
     injection this with e1 e2;exact⟨e1,e2⟩
    obtain⟨rfl,rfl⟩:=i;refine wp_loop_rounds 4 ?_;rw[rounds_succ];go_wp2_with fail;rw[rounds_succ];go_wp2_with fail;rw[rounds_succ];go_wp2;go_ret2;exact⟨rfl,d.out⟩
   rw[decide_eq_false O] at o;clear l m;cases v with
   | inf=>exact absurd rfl v1
   | low=>exact absurd rfl S
   | fin x =>
    cases u with
    | inf=>exact absurd rfl L
    | low=>exact absurd rfl O
    | fin y =>
     have za:a.size<=9223372036854775807:=by have:=z3c FA.out;rw[EA.out];show (txt x).size<=_;omega
     have zb:b.size<=9223372036854775807:=by have:=z3c FB.out;rw[EB.out];show (txt y).size<=_;omega
     have c3:=fun z (h:Below w.heap.size w z)=>x4x a b z za zb (HT.out.below h nlr);have e3:x0h a b=(K,I):=by
      rw[k.out,times1,EA.out,EB.out];show x0h (txt x) (txt y)=_;unfold x0h;rw[z2k FA.out,z2k FB.out];rfl
     rw[e3] at c3;have C3:=qh c3;clear c3 e3 za zb;refine wp_loop_rounds 4 ?_;rw[rounds_succ];go_wp2_with fail;rw[rounds_succ];go_wp2_with fail;rw[rounds_succ];go_wp2_with fail;rw[rounds_succ];go_wp2_with fail
     go_wp2_with fail
     refine nxb (C3.out _ d.out) d fun w4 R=>?_;go_wp2;go_ret2;exact⟨rfl,R.out⟩
theorem v4x (a b:ByteArray) (w:World) (P:a.size<=9223372036854775807) (hb:b.size<=9223372036854775807) (G:Tab w):Calls prog 44 #[.int .i64 2,.string a,.string b] w (PairEnd (z0g 2 a b) w):=by
 have c1:=fun A (h:Below w.heap.size w A)=>z5i a A P (G.below h nlr);have c2:=fun A (h:Below w.heap.size w A)=>z5i b A hb (G.below h nlr);cases s:z0q 2 a with
 | false =>
  rw[y0y s];rw[s] at c1;clear s c2 P hb G;have c0:=of_2 w;unfold OfEnd at c0;unfold ring2 at *;have J:=qh c0;clear c0;have L:=qh c1;clear c1
  go_enter func44,ntmps44
  go_wp2_with fail
  refine J.out.mono ?_;rintro e w1 ⟨rfl,hb⟩;have c:=qh (hb.alloc hb.size (.cells ring2 123));clear hb
  go_wp2_with fail
  refine nxb (L.out _ c.out) c fun w2 g=>?_;go_wp2;go_ret2;exact⟨rfl,g.out⟩
 | true =>
  cases H:z0q 2 b with
  | false =>
   rw[y4u H];rw[s] at c1;rw[H] at c2;clear s H P hb G;have c0:=of_2 w;unfold OfEnd at c0;unfold ring2 at *;have J:=qh c0;clear c0;have L:=qh c1;clear c1;have C2:=qh c2;clear c2
   go_enter func44,ntmps44
   go_wp2_with fail
   refine J.out.mono ?_;rintro e w1 ⟨rfl,hb⟩;have c:=qh (hb.alloc hb.size (.cells ring2 123));clear hb
   go_wp2_with fail
   refine(L.out _ c.out).mono ?_;rintro e w2 ⟨rfl,hb⟩;have m:=qh (hb);have g:=qh (z0a c.out hb);clear hb;obtain⟨q0,q1,q2,q3,q4,q5,q6,q7⟩:=z3q m.out
   go_wp2_with fail
   refine nxb (C2.out _ g.out) g fun w3 d=>?_;go_wp2;go_ret2;exact⟨rfl,d.out⟩
  | true =>
   rw[s] at c1;rw[H] at c2;obtain⟨v,pv,rv,ov,Y,j⟩:=z3r s;obtain⟨u,pu,ru,ou,eb,I⟩:=z3r H;clear s H;have hr:z0g 2 a b=limV (z0i 2 v u):=by unfold z0g;rw[pv,pu]
   have R:=index3b0;have W:=index3b1;have S:=index3b2;have z:=x7h j;have p:=x8h j;have F:=y5x j;have o:=x7h I;have l:=x8h I;have B:=y5x I;rw[<- Y] at z p F;rw[<- eb] at o l B;have c0:=of_2 w;unfold OfEnd at c0;unfold ring2 at *;have J:=qh c0;clear c0;have L:=qh c1;clear c1;have C2:=qh c2;clear c2;rw[hr];obtain⟨r,E⟩:=exq (limV (z0i 2 v u));rw[<- E];obtain⟨N,K⟩:=r;have k:=qh E;clear E;have HX:=qh (And.intro R (And.intro W S));clear R W S;have Z:=qh (And.intro z (And.intro p F));clear z p F;have X:=qh (And.intro o (And.intro l B));clear o l B;have EA:=qh Y;have EB:=qh eb;have FA:=qh j;have FB:=qh I;have OV:=qh ov;have OU:=qh ou;clear hr pv rv ov Y j pu ru ou eb I P hb;have HT:=qh G;clear G
   go_enter func44,ntmps44
   go_wp2_with fail
   refine J.out.mono ?_;rintro e w1 ⟨rfl,hb⟩;have c:=qh (hb.alloc hb.size (.cells ring2 123));clear hb
   go_wp2_with fail
   refine(L.out _ c.out).mono ?_;rintro e w2 ⟨rfl,hb⟩;have m:=qh (hb);have g:=qh (z0a c.out hb);clear hb;obtain⟨q0,q1,q2,q3,q4,q5,q6,q7⟩:=z3q m.out
   go_wp2_with fail
   refine(C2.out _ g.out).mono ?_;rintro e w3 ⟨rfl,hb⟩;clear q0 q1 q2 q3 q4 q5 q6 q7;have a1:=qh (z0a m.out hb);have d:=qh (z0a g.out hb);clear hb;obtain⟨q0,q1,q2,q3,q4,q5,q6,q7⟩:=z3q a1.out
   go_wp2_with fail
   obtain⟨R,W,S⟩:=HX.out;obtain⟨z,p,F⟩:=Z.out;obtain⟨o,l,B⟩:=X.out;have D:v≠.low:=z0r OV.out (by decide);have C:u≠.low:=z0r OU.out (by decide);rw[decide_eq_false D] at p;rw[decide_eq_false C] at l;by_cases v1:v=.fin 0
   ·subst v1;simp only[decide_true] at F;clear z p o l B;have i:N=⟨#[48]⟩/\K=0:=by
     have:=k.out;rw[show z0i 2 _ _=.fin 0 from by rw[times23 (by decide) D C,z2h],y0b] at this;injection this with e1 e2;exact⟨e1,e2⟩
    obtain⟨rfl,rfl⟩:=i;refine wp_loop_rounds 4 ?_;rw[rounds_succ];go_wp2;go_ret2;exact⟨rfl,d.out⟩
   rw[decide_eq_false v1] at F;by_cases O:u=.fin 0
   ·subst O;simp only[decide_true] at B;clear z p o l;have i:N=⟨#[48]⟩/\K=0:=by
     have:=k.out;rw[show z0i 2 _ _=.fin 0 from by rw[times23 (by decide) D C,z2a],y0b] at this;injection this with e1 e2;exact⟨e1,e2⟩
    obtain⟨rfl,rfl⟩:=i;refine wp_loop_rounds 4 ?_;rw[rounds_succ];go_wp2;go_ret2;exact⟨rfl,d.out⟩
   rw[decide_eq_false O] at B;by_cases U:v=.inf
   ·subst U;simp only[decide_true] at z;clear p o l;have i:N=⟨#[105,110,102]⟩/\K=0:=by
     have:=k.out;rw[show z0i 2 _ _=.inf from by rw[times23 (by decide) D C];unfold mulV;rw[if_neg (fun e=>e.elim v1 O)],z8n] at this;injection this with e1 e2;exact⟨e1,e2⟩
    obtain⟨rfl,rfl⟩:=i;refine wp_loop_rounds 4 ?_;rw[rounds_succ];go_wp2_with fail;rw[rounds_succ];go_wp2;go_ret2;exact⟨rfl,d.out⟩
   rw[decide_eq_false U] at z;by_cases Q:u=.inf
   ·subst Q;simp only[decide_true] at o;clear p l;have i:N=⟨#[105,110,102]⟩/\K=0:=by
     have:=k.out;rw[show z0i 2 _ _=.inf from by rw[times23 (by decide) D C];unfold mulV;rw[if_neg (fun e=>e.elim v1 O)];cases v<;>rfl,z8n] at this
     injection this with e1 e2;exact⟨e1,e2⟩
    obtain⟨rfl,rfl⟩:=i;refine wp_loop_rounds 4 ?_;rw[rounds_succ];go_wp2_with fail;rw[rounds_succ];go_wp2;go_ret2;exact⟨rfl,d.out⟩
   rw[decide_eq_false Q] at o;cases v with
   | inf=>exact absurd rfl U
   | low=>exact absurd rfl D
   | fin x =>
    cases u with
    | inf=>exact absurd rfl Q
    | low=>exact absurd rfl C
    | fin y =>
     have za:a.size<=9223372036854775807:=by have:=z3c FA.out;rw[EA.out];show (txt x).size<=_;omega
     have zb:b.size<=9223372036854775807:=by have:=z3c FB.out;rw[EB.out];show (txt y).size<=_;omega
     have c3:=fun A (h:Below w.heap.size w A)=>x4p a b A za zb (HT.out.below h nlr);have e3:y9g a b=(N,K):=by
      rw[k.out,times23 (by decide) D C,z1j,EA.out,EB.out];show y9g (txt x) (txt y)=_;unfold y9g;rw[z2k FA.out,z2k FB.out];rfl
     rw[e3] at c3;have C3:=qh c3;clear c3 e3 za zb;refine wp_loop_rounds 4 ?_;rw[rounds_succ];go_wp2_with fail;rw[rounds_succ];go_wp2_with fail;rw[rounds_succ];go_wp2_with fail;rw[rounds_succ];go_wp2_with fail
     go_wp2_with fail
     refine nxb (C3.out _ d.out) d fun w4 T=>?_;go_wp2;go_ret2;exact⟨rfl,T.out⟩
theorem v8k (a b:ByteArray) (w:World) (P:a.size<=9223372036854775807) (hb:b.size<=9223372036854775807) (G:Tab w):Calls prog 44 #[.int .i64 3,.string a,.string b] w (PairEnd (z0g 3 a b) w):=by
 have c1:=fun A (h:Below w.heap.size w A)=>z5j a A P (G.below h nlr);have c2:=fun A (h:Below w.heap.size w A)=>z5j b A hb (G.below h nlr);cases s:z0q 3 a with
 | false =>
  rw[y0y s];rw[s] at c1;clear s c2 P hb G;have c0:=of_3 w;unfold OfEnd at c0;unfold ring3 at *;have J:=qh c0;clear c0;have L:=qh c1;clear c1
  go_enter func44,ntmps44
  go_wp2_with fail
  refine J.out.mono ?_;rintro e w1 ⟨rfl,hb⟩;have c:=qh (hb.alloc hb.size (.cells ring3 123));clear hb
  go_wp2_with fail
  refine nxb (L.out _ c.out) c fun w2 g=>?_;go_wp2;go_ret2;exact⟨rfl,g.out⟩
 | true =>
  cases H:z0q 3 b with
  | false =>
   rw[y4u H];rw[s] at c1;rw[H] at c2;clear s H P hb G;have c0:=of_3 w;unfold OfEnd at c0;unfold ring3 at *;have J:=qh c0;clear c0;have L:=qh c1;clear c1;have C2:=qh c2;clear c2
   go_enter func44,ntmps44
   go_wp2_with fail
   refine J.out.mono ?_;rintro e w1 ⟨rfl,hb⟩;have c:=qh (hb.alloc hb.size (.cells ring3 123));clear hb
   go_wp2_with fail
   refine(L.out _ c.out).mono ?_;rintro e w2 ⟨rfl,hb⟩;have m:=qh (hb);have g:=qh (z0a c.out hb);clear hb;obtain⟨q0,q1,q2,q3,q4,q5,q6,q7⟩:=z3n m.out
   go_wp2_with fail
   refine nxb (C2.out _ g.out) g fun w3 d=>?_;go_wp2;go_ret2;exact⟨rfl,d.out⟩
  | true =>
   rw[s] at c1;rw[H] at c2;obtain⟨v,pv,rv,ov,Y,j⟩:=z3r s;obtain⟨u,pu,ru,ou,eb,I⟩:=z3r H;clear s H;have hr:z0g 3 a b=limV (z0i 3 v u):=by unfold z0g;rw[pv,pu]
   have R:=index3b0;have W:=index3b1;have S:=index3b2;have z:=x7h j;have p:=x8h j;have F:=y5x j;have o:=x7h I;have l:=x8h I;have B:=y5x I;rw[<- Y] at z p F;rw[<- eb] at o l B;have c0:=of_3 w;unfold OfEnd at c0;unfold ring3 at *;have J:=qh c0;clear c0;have L:=qh c1;clear c1;have C2:=qh c2;clear c2;rw[hr];obtain⟨r,E⟩:=exq (limV (z0i 3 v u));rw[<- E];obtain⟨N,K⟩:=r;have k:=qh E;clear E;have HX:=qh (And.intro R (And.intro W S));clear R W S;have Z:=qh (And.intro z (And.intro p F));clear z p F;have X:=qh (And.intro o (And.intro l B));clear o l B;have EA:=qh Y;have EB:=qh eb;have FA:=qh j;have FB:=qh I;have OV:=qh ov;have OU:=qh ou;clear hr pv rv ov Y j pu ru ou eb I P hb;have HT:=qh G;clear G
   go_enter func44,ntmps44
   go_wp2_with fail
   refine J.out.mono ?_;rintro e w1 ⟨rfl,hb⟩;have c:=qh (hb.alloc hb.size (.cells ring3 123));clear hb
   go_wp2_with fail
   refine(L.out _ c.out).mono ?_;rintro e w2 ⟨rfl,hb⟩;have m:=qh (hb);have g:=qh (z0a c.out hb);clear hb;obtain⟨q0,q1,q2,q3,q4,q5,q6,q7⟩:=z3n m.out
   go_wp2_with fail
   refine(C2.out _ g.out).mono ?_;rintro e w3 ⟨rfl,hb⟩;clear q0 q1 q2 q3 q4 q5 q6 q7;have a1:=qh (z0a m.out hb);have d:=qh (z0a g.out hb);clear hb;obtain⟨q0,q1,q2,q3,q4,q5,q6,q7⟩:=z3n a1.out
   go_wp2_with fail
   obtain⟨R,W,S⟩:=HX.out;obtain⟨z,p,F⟩:=Z.out;obtain⟨o,l,B⟩:=X.out;have D:v≠.low:=z0r OV.out (by decide);have C:u≠.low:=z0r OU.out (by decide);rw[decide_eq_false D] at p;rw[decide_eq_false C] at l;by_cases v1:v=.fin 0
   ·subst v1;simp only[decide_true] at F;clear z p o l B;have i:N=⟨#[48]⟩/\K=0:=by
     have:=k.out;rw[show z0i 3 _ _=.fin 0 from by rw[times23 (by decide) D C,z2h],y0b] at this;injection this with e1 e2;exact⟨e1,e2⟩
    obtain⟨rfl,rfl⟩:=i;refine wp_loop_rounds 4 ?_;rw[rounds_succ];go_wp2;go_ret2;exact⟨rfl,d.out⟩
   rw[decide_eq_false v1] at F;by_cases O:u=.fin 0
   ·subst O;simp only[decide_true] at B;clear z p o l;have i:N=⟨#[48]⟩/\K=0:=by
     have:=k.out;rw[show z0i 3 _ _=.fin 0 from by rw[times23 (by decide) D C,z2a],y0b] at this;injection this with e1 e2;exact⟨e1,e2⟩
    obtain⟨rfl,rfl⟩:=i;refine wp_loop_rounds 4 ?_;rw[rounds_succ];go_wp2;go_ret2;exact⟨rfl,d.out⟩
   rw[decide_eq_false O] at B;by_cases U:v=.inf
   ·subst U;simp only[decide_true] at z;clear p o l;have i:N=⟨#[105,110,102]⟩/\K=0:=by
     have:=k.out;rw[show z0i 3 _ _=.inf from by rw[times23 (by decide) D C];unfold mulV;rw[if_neg (fun e=>e.elim v1 O)],z8n] at this;injection this with e1 e2;exact⟨e1,e2⟩
    obtain⟨rfl,rfl⟩:=i;refine wp_loop_rounds 4 ?_;rw[rounds_succ];go_wp2_with fail;rw[rounds_succ];go_wp2;go_ret2;exact⟨rfl,d.out⟩
   rw[decide_eq_false U] at z;by_cases Q:u=.inf
   ·subst Q;simp only[decide_true] at o;clear p l;have i:N=⟨#[105,110,102]⟩/\K=0:=by
     have:=k.out;rw[show z0i 3 _ _=.inf from by rw[times23 (by decide) D C];unfold mulV;rw[if_neg (fun e=>e.elim v1 O)];cases v<;>rfl,z8n] at this
     injection this with e1 e2;exact⟨e1,e2⟩
    obtain⟨rfl,rfl⟩:=i;refine wp_loop_rounds 4 ?_;rw[rounds_succ];go_wp2_with fail;rw[rounds_succ];go_wp2;go_ret2;exact⟨rfl,d.out⟩
   rw[decide_eq_false Q] at o;cases v with
   | inf=>exact absurd rfl U
   | low=>exact absurd rfl D
   | fin x =>
    cases u with
    | inf=>exact absurd rfl Q
    | low=>exact absurd rfl C
    | fin y =>
     have za:a.size<=9223372036854775807:=by have:=z3c FA.out;rw[EA.out];show (txt x).size<=_;omega
     have zb:b.size<=9223372036854775807:=by have:=z3c FB.out;rw[EB.out];show (txt y).size<=_;omega
     have c3:=fun A (h:Below w.heap.size w A)=>x4p a b A za zb (HT.out.below h nlr);have e3:y9g a b=(N,K):=by
      rw[k.out,times23 (by decide) D C,z1j,EA.out,EB.out];show y9g (txt x) (txt y)=_;unfold y9g;rw[z2k FA.out,z2k FB.out];rfl
     rw[e3] at c3;have C3:=qh c3;clear c3 e3 za zb;refine wp_loop_rounds 4 ?_;rw[rounds_succ];go_wp2_with fail;rw[rounds_succ];go_wp2_with fail;rw[rounds_succ];go_wp2_with fail;rw[rounds_succ];go_wp2_with fail
     go_wp2_with fail
     refine nxb (C3.out _ d.out) d fun w4 T=>?_;go_wp2;go_ret2;exact⟨rfl,T.out⟩
theorem v1w (k:Int) (a b:ByteArray) (w:World) (d:k<1\/3<k):Calls prog 44 #[.int .i64 k,.string a,.string b] w (PairEnd (z0g k a b) w):=by
 rw[y0y (y0v d a)];have c0:=x3j k w d;unfold OfEnd at c0;unfold ring0 at *;have g:=qh c0;clear c0
 go_enter func44,ntmps44
 go_wp2_with fail
 refine g.out.mono ?_;rintro e h ⟨rfl,hb⟩;have c:=qh (hb.alloc hb.size (.cells ring0 123));clear hb;go_wp2;go_ret2;exact⟨rfl,c.out⟩
theorem z4h (k:Int) (a b:ByteArray) (w:World) (c:a.size<=9223372036854775807) (hb:b.size<=9223372036854775807) (d:Tab w):Calls prog 44 #[.int .i64 k,.string a,.string b] w (PairEnd (z0g k a b) w):=by
 rcases z3b k with rfl|rfl|rfl|g
 ·exact v6k a b w c hb d
 ·exact v4x a b w c hb d
 ·exact v8k a b w c hb d
 exact v1w k a b w g
end
section
open Go.RowKit
end
section
open Go.RowKit
theorem z6p (v:V):(limV v).1.size<=802:=by
 cases v with
 | inf=>show 3<=802;omega
 | low=>show 4<=802;omega
 | fin q=>exact x1a q
theorem y5a:argS.1.size<=802:=by show 0<=802;omega
theorem x8e (k:Int) (a b:ByteArray):(z1k k a b).1.size<=802:=by unfold z1k;split<;>first|exact z6p _|exact y5a
theorem x3s (k:Int) (a b:ByteArray):(z0g k a b).1.size<=802:=by unfold z0g;split<;>first|exact z6p _|exact y5a
theorem x6p (k:Int) (a:ByteArray):(z5t k a).1.size<=802:=by unfold z5t;split<;>first|exact z6p _|exact y5a
theorem z8q (k:Int):(z0z k).size<=100000:=by
 rcases z3b k with rfl|rfl|rfl|c
 ·rw[x9a];decide
 ·rw[v2v];decide
 ·rw[v0k];decide
 rw[x6f c];decide
theorem x8u (k:Int):(oneF k).size<=100000:=by
 rcases z3b k with rfl|rfl|rfl|c
 ·rw[v9j];decide
 ·rw[v9n];decide
 ·rw[v9a];decide
 rw[v2y c];decide
end
section
open Go.RowKit
end
section
open Go.RowKit
def dval:List Nat->Nat | []=>0|x::xs=>x+10*dval xs
def Dig (xs:List Nat):Prop:=∀ i,nth xs i<10
theorem v5q {xs:List Nat} (h:Dig xs) (k:Nat):Dig (xs.take k):=fun i=>by
 by_cases c:i<k
 ·rw[z8j _ _ _ c];exact h i
 rw[z1s _ _ (by rw[List.length_take];omega)];omega
theorem x3m (xs c:List Nat):dval (xs++c)=dval xs+10 ^ xs.length*dval c:=by
 induction xs with
 | nil=>simp[dval]
 | cons x xs ih=>simp only[List.cons_append,dval,ih,List.length_cons,Nat.pow_succ];rw[Nat.mul_add,Nat.mul_comm (10 ^ xs.length) 10,Nat.mul_assoc];omega
theorem x9z (xs:List Nat) (x:Nat):dval (xs++[x])=dval xs+10 ^ xs.length*x:=by rw[x3m];simp[dval]
theorem z9f (xs:List Nat) (k:Nat):dval (xs.take (k+1))=dval (xs.take k)+10 ^ k*nth xs k:=by
 by_cases h:k<xs.length
 ·rw[y6q xs k h,x9z,List.length_take,Nat.min_eq_left (by omega)]
 rw[List.take_of_length_le (by omega),List.take_of_length_le (by omega),z1s xs k (by omega)];simp
theorem v3r {xs:List Nat} (h:∀ i,nth xs i=0):dval xs=0:=by
 induction xs with
 | nil=>rfl
 | cons x xs ih=>simp only[dval];rw[ih (fun i=>h (i+1)),show x=0 from h 0]
theorem v0f {xs:List Nat} (h:Dig xs):dval xs<10 ^ xs.length:=by
 induction xs with
 | nil=>simp[dval]
 | cons x xs ih =>
  have c:=h 0;rw[z6y] at c;have:=ih (fun i=>h (i+1));simp only[dval,List.length_cons,Nat.pow_succ];omega
def byteOf (d:Nat):UInt8:=UInt8.ofNat (48+d)
theorem byteOf_toNat {d:Nat} (h:d<10):(byteOf d).toNat=48+d:=u8n (by omega)
def bytesOf (xs:List Nat):List UInt8:=xs.reverse.map byteOf
end
section
open Go.RowKit
end
section
open Go.RowKit
end
section
open Go.RowKit
end
section
open Go.RowKit
theorem u0b {L:List Nat} (h:Dig L) (j v:Nat) (c:v<10):Dig (L.set j v):=fun i=>by
 by_cases d:j<L.length
 ·rw[y1e L j v i d];split
  ·exact c
  exact h i
 rw[List.set_eq_of_length_le (by omega)];exact h i
theorem v4b (L:List Nat):∀ (j v:Nat),j<L.length->dval (L.set j v)+10 ^ j*nth L j=dval L+10 ^ j*v:=by
 induction L with
 | nil=>intro j v h;simp at h
 | cons x L ih =>
  intro j v h;cases j with
  | zero=>simp only[List.set_cons_zero,dval,z6y,Nat.pow_zero];omega
  | succ j =>
   have:=ih j v (by simpa using h);simp only[List.set_cons_succ,dval,z5g,Nat.pow_succ];have e:10*(dval (L.set j v)+10 ^ j*nth L j)=10*(dval L+10 ^ j*v):=by rw[this]
   rw[Nat.mul_add,Nat.mul_add,<- Nat.mul_assoc,<- Nat.mul_assoc,Nat.mul_comm 10 (10 ^ j)] at e;omega
theorem v3y (k i:Nat):nth (List.replicate k 0) i=0:=by unfold nth;simp[List.getD_eq_getElem?_getD,List.getElem?_replicate];split<;>rfl
structure MulIR (xs ys L:List Nat) (i k c:Nat):Prop where
 dig:Dig L
 carry:c<10
 len:L.length=xs.length+ys.length+1
 val:dval L+10 ^ (i+k)*c=dval (xs.take i)*dval ys+10 ^ i*(nth xs i*dval (ys.take k))
structure MulOR (xs ys L:List Nat) (i:Nat):Prop where
 dig:Dig L
 len:L.length=xs.length+ys.length+1
 val:dval L=dval (xs.take i)*dval ys
theorem MulOR.start (xs c:List Nat):MulOR xs c (List.replicate (xs.length+c.length+1) 0) 0 :=
 ⟨fun i=>by rw[v3y];omega,by simp,by rw[v3r (v3y _)];simp[dval]⟩
theorem x2u {l c x y:Nat} (i:l<10) (h:c<10) (d:x<10) (g:y<10):l+x*y+c<100:=by
 have:x*y<=9*9:=Nat.mul_le_mul (by omega) (by omega);omega
theorem MulIR.step {xs d L:List Nat} {i k c l x y:Nat} (h:MulIR xs d L i k c) (D:Dig xs) (C:Dig d) (hi:i<xs.length) (E:k<d.length+1) (u:l=nth L (i+k)) (o:x=nth xs i) (z:y=nth d k) :
  MulIR xs d (L.set (i+k) ((l+x*y+c) % 10)) i (k+1) ((l+x*y+c) / 10):=by
 have hb:=x2u (h.dig (i+k)) h.carry (D i) (C k);have s:i+k<L.length:=by rw[h.len];omega
 have j:=v4b L (i+k) ((l+x*y+c) % 10) s;have g:=h.val;have m:=z9f d k;rw[<- u,<- o,<- z] at hb;rw[<- u] at j;rw[<- z] at m;rw[<- o] at g;generalize hp:l+x*y+c=p at *;have A:10 ^ (i+k)*l+10 ^ (i+k)*(x*y)+10 ^ (i+k)*c=10 ^ (i+k)*p:=by rw[<- hp,Nat.mul_add,Nat.mul_add]
 have B:10 ^ (i+k)*p=10 ^ (i+k)*(p % 10)+10 ^ (i+k)*10*(p / 10):=by
  rw[Nat.mul_assoc,<- Nat.mul_add,Nat.mod_add_div]
 refine⟨u0b h.dig _ _ (by omega),by omega,by simp[h.len],?_⟩;rw[m,Nat.mul_add,Nat.mul_add,show i+(k+1)=i+k+1 by omega,Nat.pow_succ 10 (i+k),<- o];have e:10 ^ i*(x*(10 ^ k*y))=10 ^ (i+k)*(x*y):=by
  rw[Nat.pow_add,Nat.mul_left_comm x,Nat.mul_assoc]
 rw[e];omega
theorem MulIR.done {xs d L:List Nat} {i c:Nat} (h:MulIR xs d L i (d.length+1) c) (o:Dig xs) (m:Dig d) (hi:i<xs.length):MulOR xs d L (i+1):=by
 refine⟨h.dig,h.len,?_⟩;have g:=h.val;rw[List.take_of_length_le (by omega:d.length<=d.length+1)] at g;have e:dval (xs.take i)*dval d+10 ^ i*(nth xs i*dval d)=dval (xs.take (i+1))*dval d:=by
  rw[z9f,Nat.add_mul,Nat.mul_assoc]
 rw[e] at g;have l:dval (xs.take (i+1))<10 ^ (i+1):=by
  have:=v0f (v5q o (i+1));rw[List.length_take,Nat.min_eq_left (by omega)] at this;exact this
 have u:=v0f m;have k:dval (xs.take (i+1))*dval d<10 ^ (i+1)*10 ^ d.length:=by
  have p:dval (xs.take (i+1))*dval d<=dval (xs.take (i+1))*10 ^ d.length:=Nat.mul_le_mul_left _ (by omega);have s:dval (xs.take (i+1))*10 ^ d.length<10 ^ (i+1)*10 ^ d.length:=Nat.mul_lt_mul_of_pos_right l (Nat.pow_pos (by omega));omega
 rw[<- Nat.pow_add,show i+1+d.length=i+(d.length+1) by omega] at k
 rcases Nat.eq_zero_or_pos c with j|j
 ·subst j;rw[Nat.mul_zero,Nat.add_zero] at g;exact g
 have:10 ^ (i+(d.length+1))*1<=10 ^ (i+(d.length+1))*c:=Nat.mul_le_mul_left _ j;omega
theorem MulOR.done {xs c L:List Nat} (h:MulOR xs c L xs.length):dval L=dval xs*dval c:=by rw[h.val,List.take_length]
end
section
open Go.RowKit
structure DivI (l:List UInt8) (n:Nat) (qb:List UInt8) (rn i:Nat):Prop where
 len:qb.length=i
 dig:dgts qb=true
 lt:rn<n
 val:num qb*n+rn=num (l.take i)
theorem DivI.start (l:List UInt8) {n:Nat} (h:n≠0):DivI l n [] 0 0:=⟨rfl,rfl,by omega,by simp[num]⟩
theorem x7b {j:Nat} (h:j<10):dgt (byteOf j)=true:=by simp only[dgt,byteOf_toNat h];simp;omega
theorem DivI.step {l:List UInt8} {n:Nat} {d:List UInt8} {g i j m:Nat} {c:UInt8} (h:DivI l n d g i) (p:l.take (i+1)=l.take i++[c]) (o:m<n) (k:j<10) (s:m+j*n=10*g+(c.toNat-48)) :
  DivI l n (d++[byteOf j]) m (i+1):=by
 refine⟨by rw[List.length_append,h.len];rfl,by rw[z7t,h.dig,x7b k];rfl,o,?_⟩;rw[z6e,p,z6e,<- h.val,byteOf_toNat k,show 48+j-48=j by omega,Nat.add_mul,Nat.mul_add,Nat.mul_assoc];omega
structure Strip (l:List UInt8) (k:Nat):Prop where
 lt:k+1<=l.length
 val:num (l.drop k)=num l
theorem Strip.step {l:List UInt8} {k:Nat} (h:Strip l k) (g:k+1<l.length) (d:l[k].toNat=48):Strip l (k+1):=by
 refine⟨by omega,?_⟩;rw[<- h.val,List.drop_eq_getElem_cons (i:=k) (by omega)];generalize l.drop (k+1)=x;show num x=List.foldl (fun n c=>10*n+(c.toNat-48)) (10*0+(l[k].toNat-48)) x;rw[d];rfl
end
section
open Go.RowKit
end
section
open Go.RowKit
end
section
open Go.RowKit
end
section
open Go.RowKit
end
section
open Go.RowKit
end
section
open Go.RowKit
end
section
open Go.RowKit
end
section
open Go.RowKit
end
end Go.Proofs.YteappjogmnogcaaGreatDoor
