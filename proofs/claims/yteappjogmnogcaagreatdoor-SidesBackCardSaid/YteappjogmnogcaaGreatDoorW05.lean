/- Parts of a proof: MS2 SemF SemH SemG MX MR1 MR2 MR3 MR4. -/
import Derived.Test.YteappjogmnogcaaGreatDoorW04
import Derived.Test.YteappjogmnogcaaGreatDoorW00
import Derived.LoopN
import Derived.Test.YteappjogmnogcaaGreatDoorW02
import Derived.Test.YteappjogmnogcaaGreatDoorW03
import Derived.Deep.QuietTactic
import Derived.BigQuiet
import Derived.Laws.Concat
namespace Go.Proofs.YteappjogmnogcaaGreatDoor
set_option maxRecDepth 100000
set_option linter.unusedSimpArgs false
set_option linter.unusedVariables false
set_option linter.unusedSectionVars false
set_option maxHeartbeats 16000000
open Go Tryz
section
open Go.RowKit
theorem z5w:txt 0=⟨#[48]⟩:=((z2s y0p).1).symm
theorem y2y:fitQ 0:=(z2s y0p).2
theorem y7d:prs ⟨#[49]⟩=some 1:=by
 have:txt 1=⟨#[49]⟩:=by unfold txt txtL;rw[show negQ 1=false from rfl,show (1:Rat).num.natAbs=1 from rfl,show (1:Rat).den=1 from rfl,z5j];rfl
 rw[<- this];exact z2i (by unfold fitQ;rw[show (1:Rat).num.natAbs=1 from rfl,show (1:Rat).den=1 from rfl,z5j];decide)
theorem y4r:txt 1=⟨#[49]⟩:=((z2s y7d).1).symm
theorem x1g:fitQ 1:=(z2s y7d).2
def natB (a:ByteArray):Bool:=match prs a with|some q=>decide (0<=q)|none=>false
def posB (a:ByteArray):Bool:=match prs a with|some q=>decide (0<q)|none=>false
theorem y6n {a:ByteArray} {q:Rat} (h:prs a=some q):y3f a ⟨#[48]⟩=cmpQ q 0:=by unfold y3f;rw[h,y0p]
theorem x9v (a:ByteArray):z0s 1 a=(prs a).isSome:=by
 unfold z0s rdV;by_cases c:a=infS
 ·rw[if_pos c,c,y6x];rfl
 rw[if_neg c];by_cases d:a=lowS
 ·rw[if_pos d,d,y4u];rfl
 rw[if_neg d];cases prs a with
 | none=>rfl
 | some q=>simp[wtV]
theorem y6j {k:Int} (g:k=2\/k=3) (a:ByteArray):z0s k a=posB a:=by
 unfold z0s rdV posB;by_cases c:a=infS
 ·rw[if_pos c,c,y6x];rfl
 rw[if_neg c];by_cases d:a=lowS
 ·rw[if_pos d,d,y4u];rfl
 rw[if_neg d];cases prs a with
 | none=>rfl
 | some q =>
  show decide (wtV k (.fin q))=decide (0<q);rw[decide_eq_decide]
  constructor
  ·intro h;rcases h with h|h
   ·omega
   exact h.2
  intro h;exact .inr ⟨g,h⟩
theorem y0z {k:Int} (c:k=1\/k=2\/k=3):z0p k infS=true:=by
 have:vprs k infS=some .inf:=z3c.2 ⟨by simp[rdV],by unfold okV;omega⟩;unfold z0p;rw[this];rfl
theorem x3a:z0p 1 lowS=true:=by
 have:vprs 1 lowS=some .low:=z3c.2 ⟨by simp[rdV,show lowS≠infS by decide],rfl⟩;unfold z0p;rw[this];rfl
theorem v4s {a:ByteArray} (c:a≠infS) (d:a≠lowS):z0p 1 a=(prs a).isSome:=by
 unfold z0p vprs rdV;rw[if_neg c,if_neg d];cases prs a with
 | none=>rfl
 | some q=>simp[okV]
theorem x0g {k:Int} (d:k=2\/k=3) {a:ByteArray} (g:a≠infS):z0p k a=natB a:=by
 unfold z0p vprs rdV natB;rw[if_neg g];by_cases c:a=lowS
 ·rw[if_pos c,c,y4u];have:decide (okV k .low)=false:=by rw[decide_eq_false_iff_not];intro h;change k=1 at h;omega
  simp[Option.filter,this]
 rw[if_neg c];cases prs a with
 | none=>rfl
 | some q =>
  have:decide (okV k (.fin q))=decide (0<=q):=by
   rw[decide_eq_decide]
   constructor
   ·intro h;rcases h with h|h
    ·omega
    exact h.2
   intro h;exact .inr ⟨d,h⟩
  simp only[Option.map_some,Option.filter,this];cases decide (0<=q)<;>rfl
def BoolE (b:Bool) (w:World) (e:Ending) (w':World):Prop:=e=.returned (.bool b)/\Below w.heap.size w w'
theorem y2b (a:ByteArray) (w:World) (d:a.size<=9223372036854775807) (c:Tab w):Calls prog 160 #[.string a] w (BoolE (prs a).isSome w):=z8m a w d c
theorem y4q (a:ByteArray) (w:World) (j:a.size<=9223372036854775807) (i:Tab w):Calls prog 164 #[.string a] w (BoolE (natB a) w):=by
 have c1:=z8m a w j i;have c2:=fun m (h:Below w.heap.size w m)=>y7g a ⟨#[48]⟩ m j (by decide) (i.below h nlr);cases d:prs a with
 | none =>
  have g:natB a=false:=by unfold natB;rw[d]
  rw[g];rw[d] at c1;simp only[Option.isSome] at c1;have l:=qh c1;clear c1 c2 d g j i
  go_enter func164,ntmps164
  go_wp2_with fail
  refine nxa l.out fun s c=>?_;go_wp2;go_ret;exact⟨rfl,c.out⟩
 | some q =>
  have g:natB a=decide (0<=q):=by unfold natB;rw[d]
  rw[y6n d] at c2;rw[g];rw[d] at c1;simp only[Option.isSome] at c1;have l:=qh c1;clear c1;have o:(decide (0<=q)=decide (0<=cmpQ q 0)):=by
   rcases z1k q 0 with ⟨h,e⟩|⟨h,e⟩|⟨h,e⟩<;>rw[e]
   ·rw[decide_eq_decide];simp;exact Rat.not_le.2 h
   ·subst h;rfl
   rw[decide_eq_decide];simp;exact Rat.le_of_lt h
  rw[o];have u:cmpQ q 0=-1\/cmpQ q 0=0\/cmpQ q 0=1:=by rcases z1k q 0 with ⟨h,e⟩|⟨h,e⟩|⟨h,e⟩<;>simp[e]
  generalize cmpQ q 0=z at *;have p:=qh c2;clear c2 d g j i o
  rcases u with rfl|rfl|rfl
  all_goals
   go_enter func164,ntmps164
   go_wp2_with fail
   refine nxa l.out fun s c=>?_
   go_wp2_with fail
   refine nxb (p.out _ c.out) c fun A k=>?_;go_wp2;go_ret;exact⟨rfl,k.out⟩
theorem y2d (a:ByteArray) (w:World) (j:a.size<=9223372036854775807) (i:Tab w):Calls prog 165 #[.string a] w (BoolE (posB a) w):=by
 have c1:=z8m a w j i;have c2:=fun m (h:Below w.heap.size w m)=>y7g a ⟨#[48]⟩ m j (by decide) (i.below h nlr);cases d:prs a with
 | none =>
  have g:posB a=false:=by unfold posB;rw[d]
  rw[g];rw[d] at c1;simp only[Option.isSome] at c1;have l:=qh c1;clear c1 c2 d g j i
  go_enter func165,ntmps165
  go_wp2_with fail
  refine nxa l.out fun s c=>?_;go_wp2;go_ret;exact⟨rfl,c.out⟩
 | some q =>
  have g:posB a=decide (0<q):=by unfold posB;rw[d]
  rw[y6n d] at c2;rw[g];rw[d] at c1;simp only[Option.isSome] at c1;have l:=qh c1;clear c1;have o:(decide (0<q)=decide (0<cmpQ q 0)):=by
   rcases z1k q 0 with ⟨h,e⟩|⟨h,e⟩|⟨h,e⟩<;>rw[e]
   ·rw[decide_eq_decide];simp;exact Rat.not_lt.2 (Rat.le_of_lt h)
   ·subst h;rfl
   rw[decide_eq_decide];simp;exact h
  rw[o];have u:cmpQ q 0=-1\/cmpQ q 0=0\/cmpQ q 0=1:=by rcases z1k q 0 with ⟨h,e⟩|⟨h,e⟩|⟨h,e⟩<;>simp[e]
  generalize cmpQ q 0=z at *;have p:=qh c2;clear c2 d g j i o
  rcases u with rfl|rfl|rfl
  all_goals
   go_enter func165,ntmps165
   go_wp2_with fail
   refine nxa l.out fun s c=>?_
   go_wp2_with fail
   refine nxb (p.out _ c.out) c fun A k=>?_;go_wp2;go_ret;exact⟨rfl,k.out⟩
theorem z5f (a:ByteArray) (w:World) (o:a.size<=9223372036854775807) (m:Tab w):Calls prog 98 #[.agg ring1,.string a] w (BoolE (z0p 1 a) w):=by
 have j:Below w.heap.size w (w.alloc (.cells ring1 123)):=blr.alloc nlr _;have c1:=fun p (h:Below w.heap.size w p)=>y2b a p o (m.below h nlr);have s:=qh c1;clear c1 o m;have c:=qh j;clear j;unfold ring1 at c ⊢;by_cases d:a=infS
 ·have z:(a.toList==[105,110,102])=true:=by rw[d,z2v];rfl
  have i:z0p 1 a=true:=by rw[d];exact y0z (by omega)
  rw[i];clear i d
  go_enter func98,ntmps98
  go_wp2;go_ret;exact⟨rfl,c.out⟩
 have z:(a.toList==[105,110,102])=false:=z4m (l:=[105,110,102]) d;by_cases g:a=lowS
 ·have u:(a.toList==[45,105,110,102])=true:=by rw[g,z5t];rfl
  have i:z0p 1 a=true:=by rw[g];exact x3a
  rw[i];clear i d g
  go_enter func98,ntmps98
  go_wp2;go_ret;exact⟨rfl,c.out⟩
 have u:(a.toList==[45,105,110,102])=false:=z4m (l:=[45,105,110,102]) g;rw[v4s d g];clear d g
 go_enter func98,ntmps98
 go_wp2_with fail
 refine nxb (s.out _ c.out) c fun A k=>?_;go_wp2;go_ret;exact⟨rfl,k.out⟩
theorem z5h (a:ByteArray) (w:World) (k:a.size<=9223372036854775807) (j:Tab w):Calls prog 98 #[.agg ring2,.string a] w (BoolE (z0p 2 a) w):=by
 have g:Below w.heap.size w (w.alloc (.cells ring2 123)):=blr.alloc nlr _;have c1:=fun o (h:Below w.heap.size w o)=>y4q a o k (j.below h nlr);have p:=qh c1;clear c1 k j;have c:=qh g;clear g;unfold ring2 at c ⊢;by_cases d:a=infS
 ·have s:(a.toList==[105,110,102])=true:=by rw[d,z2v];rfl
  have m:z0p 2 a=true:=by rw[d];exact y0z (by omega)
  rw[m];clear m d
  go_enter func98,ntmps98
  go_wp2;go_ret;exact⟨rfl,c.out⟩
 have s:(a.toList==[105,110,102])=false:=z4m (l:=[105,110,102]) d;rw[x0g (by omega) d];clear d;cases z:(a.toList==[45,105,110,102])
 all_goals
  go_enter func98,ntmps98
  go_wp2_with fail
  refine nxb (p.out _ c.out) c fun u i=>?_;go_wp2;go_ret;exact⟨rfl,i.out⟩
theorem z5g (a:ByteArray) (w:World) (k:a.size<=9223372036854775807) (j:Tab w):Calls prog 98 #[.agg ring3,.string a] w (BoolE (z0p 3 a) w):=by
 have g:Below w.heap.size w (w.alloc (.cells ring3 123)):=blr.alloc nlr _;have c1:=fun o (h:Below w.heap.size w o)=>y4q a o k (j.below h nlr);have p:=qh c1;clear c1 k j;have c:=qh g;clear g;unfold ring3 at c ⊢;by_cases d:a=infS
 ·have s:(a.toList==[105,110,102])=true:=by rw[d,z2v];rfl
  have m:z0p 3 a=true:=by rw[d];exact y0z (by omega)
  rw[m];clear m d
  go_enter func98,ntmps98
  go_wp2;go_ret;exact⟨rfl,c.out⟩
 have s:(a.toList==[105,110,102])=false:=z4m (l:=[105,110,102]) d;rw[x0g (by omega) d];clear d;cases z:(a.toList==[45,105,110,102])
 all_goals
  go_enter func98,ntmps98
  go_wp2_with fail
  refine nxb (p.out _ c.out) c fun u i=>?_;go_wp2;go_ret;exact⟨rfl,i.out⟩
theorem cell_kept {w g:World} {c:Array Value} {t:TypeId} (h:Below (w.alloc (.cells c t)).heap.size (w.alloc (.cells c t)) g) (i:Nat):g.cell? ⟨w.heap.size,i,none⟩=c[i]?:=by
 have d:w.heap.size<(w.alloc (.cells c t)).heap.size:=by simp
 exact(h.cell (p:=⟨w.heap.size,i,none⟩) d).trans (cell_of_row _ _ i c t (0,0) (heap_alloc_last w _))
theorem x2z (v u:V) (w:World) (B:fitV v) (s:fitV u) (p:Tab w):Calls prog 157 #[.agg ring1,.string (vtxt v),.string (vtxt u)] w (PairEnd (limV (z1m 1 v u)) w):=by
 have i:Below w.heap.size w (w.alloc (.cells ring1 123)):=blr.alloc nlr _;have c1:=fun o (h:Below w.heap.size w o)=>z4s v u o B s (p.below h nlr);have l:z1m 1 v u=if 0<cmpV v u then u else v:=by unfold z1m;rfl
 rw[l];have k:limV (if 0<cmpV v u then u else v)=(if 0<cmpV v u then vtxt u else vtxt v,0):=by split<;>(rw[y2n];assumption)
 rw[k];have C:=z8b v u;generalize cmpV v u=z at *;have j:=qh c1;clear c1 p l k;have c:=qh i;clear i;unfold ring1 at c ⊢;generalize vtxt v=a at *;generalize vtxt u=b at *;clear B s
 rcases C with rfl|rfl|rfl
 ·change Calls _ _ _ _ (PairEnd (a,0) w)
  go_enter func157,ntmps157
  go_wp2_with fail
  refine(j.out _ c.out).mono ?_;rintro e m ⟨rfl,hb⟩;have d:=qh hb;have g:=qh (z0a c.out hb);clear hb;have A:=cell_kept d.out 2;go_wp2;go_ret2;exact⟨rfl,g.out⟩
 ·change Calls _ _ _ _ (PairEnd (a,0) w)
  go_enter func157,ntmps157
  go_wp2_with fail
  refine(j.out _ c.out).mono ?_;rintro e m ⟨rfl,hb⟩;have d:=qh hb;have g:=qh (z0a c.out hb);clear hb;have A:=cell_kept d.out 2;go_wp2;go_ret2;exact⟨rfl,g.out⟩
 change Calls _ _ _ _ (PairEnd (b,0) w)
 go_enter func157,ntmps157
 go_wp2_with fail
 refine(j.out _ c.out).mono ?_;rintro e m ⟨rfl,hb⟩;have d:=qh hb;have g:=qh (z0a c.out hb);clear hb;have A:=cell_kept d.out 2;go_wp2;go_ret2;exact⟨rfl,g.out⟩
theorem x1j (v u:V) (w:World) (B:fitV v) (s:fitV u) (p:Tab w):Calls prog 157 #[.agg ring3,.string (vtxt v),.string (vtxt u)] w (PairEnd (limV (z1m 3 v u)) w):=by
 have i:Below w.heap.size w (w.alloc (.cells ring3 123)):=blr.alloc nlr _;have c1:=fun o (h:Below w.heap.size w o)=>z4s v u o B s (p.below h nlr);have l:z1m 3 v u=if cmpV v u<0 then u else v:=by unfold z1m;rfl
 rw[l];have k:limV (if cmpV v u<0 then u else v)=(if cmpV v u<0 then vtxt u else vtxt v,0):=by split<;>(rw[y2n];assumption)
 rw[k];have C:=z8b v u;generalize cmpV v u=z at *;have j:=qh c1;clear c1 p l k;have c:=qh i;clear i;unfold ring3 at c ⊢;generalize vtxt v=a at *;generalize vtxt u=b at *;clear B s
 rcases C with rfl|rfl|rfl
 ·change Calls _ _ _ _ (PairEnd (b,0) w)
  go_enter func157,ntmps157
  go_wp2_with fail
  refine(j.out _ c.out).mono ?_;rintro e m ⟨rfl,hb⟩;have d:=qh hb;have g:=qh (z0a c.out hb);clear hb;have A:=cell_kept d.out 2;go_wp2;go_ret2;exact⟨rfl,g.out⟩
 ·change Calls _ _ _ _ (PairEnd (a,0) w)
  go_enter func157,ntmps157
  go_wp2_with fail
  refine(j.out _ c.out).mono ?_;rintro e m ⟨rfl,hb⟩;have d:=qh hb;have g:=qh (z0a c.out hb);clear hb;have A:=cell_kept d.out 2;go_wp2;go_ret2;exact⟨rfl,g.out⟩
 change Calls _ _ _ _ (PairEnd (a,0) w)
 go_enter func157,ntmps157
 go_wp2_with fail
 refine(j.out _ c.out).mono ?_;rintro e m ⟨rfl,hb⟩;have d:=qh hb;have g:=qh (z0a c.out hb);clear hb;have A:=cell_kept d.out 2;go_wp2;go_ret2;exact⟨rfl,g.out⟩
theorem u0q (v u:V) (w:World) (j:fitV v) (i:fitV u) (lv:v≠.low) (lu:u≠.low) (k:Tab w):Calls prog 161 #[.agg ring2,.string (vtxt v),.string (vtxt u)] w (PairEnd (limV (z1m 2 v u)) w):=by
 have d:Below w.heap.size w (w.alloc (.cells ring2 123)):=blr.alloc nlr _;rw[z5y];cases v with
 | low=>exact absurd rfl lv
 | inf =>
  have g:limV (addV .inf u)=(infS,0):=by cases u<;>rfl
  rw[g];have s:((vtxt .inf).toList==[105,110,102])=true:=by show (infS.toList==_)=_;rw[z2v];rfl
  generalize vtxt .inf=a at *;generalize vtxt u=b at *;have c:=qh d;clear d j i lv lu k g;unfold ring2 at c ⊢;unfold infS
  go_enter func161,ntmps161
  go_wp2;go_ret2;exact⟨rfl,c.out⟩
 | fin x =>
  have s:((vtxt (.fin x)).toList==[105,110,102])=false:=z8g j;cases u with
  | low=>exact absurd rfl lu
  | inf =>
   have g:limV (addV (.fin x) .inf)=(infS,0):=rfl;rw[g];have p:((vtxt .inf).toList==[105,110,102])=true:=by show (infS.toList==_)=_;rw[z2v];rfl
   generalize vtxt .inf=b at *;generalize vtxt (.fin x)=a at *;have c:=qh d;clear d j i lv lu k g;unfold ring2 at c ⊢;unfold infS
   go_enter func161,ntmps161
   go_wp2;go_ret2;exact⟨rfl,c.out⟩
  | fin y =>
   have p:((vtxt (.fin y)).toList==[105,110,102])=false:=z8g i;have l:=z2x j;have m:=z2x i;have c1:=fun z (h:Below w.heap.size w z)=>x4y (txt x) (txt y) z (by omega) (by omega) (k.below h nlr);have g:x0e (txt x) (txt y)=limV (addV (.fin x) (.fin y)):=by unfold x0e;rw[z2i j,z2i i];rfl
   rw[g] at c1;change Calls _ _ #[_,.string (txt x),.string (txt y)] _ _;change ((txt x).toList==_)=_ at s;change ((txt y).toList==_)=_ at p;generalize limV (addV (.fin x) (.fin y))=lr at *;obtain⟨ls,C⟩:=lr;generalize txt x=a at *;generalize txt y=b at *;have A:=qh c1;clear c1;have c:=qh d;clear d j i lv lu k g l m;unfold ring2 at c ⊢
   go_enter func161,ntmps161
   go_wp2_with fail
   refine nxb (A.out _ c.out) c fun B o=>?_;go_wp2;go_ret2;exact⟨rfl,o.out⟩
theorem x1n (v:V) (w:World) (k:fitV v) (g:Tab w):Calls prog 159 #[.string (vtxt v)] w (PairEnd (limV (z1x 1 v)) w):=by
 have c1:=z4s v (.fin 0) w k y2y g;have j:z1x 1 v=if 0<=cmpV v (.fin 0) then .fin 0 else .low:=rfl
 have h:limV (z1x 1 v)=(if 0<=cmpV v (.fin 0) then ⟨#[48]⟩ else lowS,0):=by
  rw[j];split
  ·exact(z8c y2y).trans (by rw[z5w])
  rfl
 rw[h];change Calls _ _ #[_,.string (txt 0)] _ _ at c1;rw[z5w] at c1;have l:=z8b v (.fin 0);generalize cmpV v (.fin 0)=z at *;have d:=qh c1;clear c1 g j h;generalize vtxt v=a at *;clear k;unfold lowS
 rcases l with rfl|rfl|rfl
 ·change Calls _ _ _ _ (PairEnd (⟨#[45,105,110,102]⟩,0) w)
  go_enter func159,ntmps159
  go_wp2_with fail
  refine nxa d.out fun i c=>?_;go_wp2;go_ret2;exact⟨rfl,c.out⟩
 ·change Calls _ _ _ _ (PairEnd (⟨#[48]⟩,0) w)
  go_enter func159,ntmps159
  go_wp2_with fail
  refine nxa d.out fun i c=>?_;go_wp2;go_ret2;exact⟨rfl,c.out⟩
 change Calls _ _ _ _ (PairEnd (⟨#[48]⟩,0) w)
 go_enter func159,ntmps159
 go_wp2_with fail
 refine nxa d.out fun i c=>?_;go_wp2;go_ret2;exact⟨rfl,c.out⟩
theorem y9y (v:V) (w:World) (k:fitV v) (g:Tab w):Calls prog 166 #[.string (vtxt v)] w (PairEnd (limV (z1x 3 v)) w):=by
 have c1:=z4s v (.fin 1) w k x1g g;have j:z1x 3 v=if cmpV v (.fin 1)<=0 then .fin 1 else .inf:=rfl
 have h:limV (z1x 3 v)=(if cmpV v (.fin 1)<=0 then ⟨#[49]⟩ else infS,0):=by
  rw[j];split
  ·exact(z8c x1g).trans (by rw[y4r])
  rfl
 rw[h];change Calls _ _ #[_,.string (txt 1)] _ _ at c1;rw[y4r] at c1;have l:=z8b v (.fin 1);generalize cmpV v (.fin 1)=z at *;have d:=qh c1;clear c1 g j h;generalize vtxt v=a at *;clear k;unfold infS
 rcases l with rfl|rfl|rfl
 ·change Calls _ _ _ _ (PairEnd (⟨#[49]⟩,0) w)
  go_enter func166,ntmps166
  go_wp2_with fail
  refine nxa d.out fun i c=>?_;go_wp2;go_ret2;exact⟨rfl,c.out⟩
 ·change Calls _ _ _ _ (PairEnd (⟨#[49]⟩,0) w)
  go_enter func166,ntmps166
  go_wp2_with fail
  refine nxa d.out fun i c=>?_;go_wp2;go_ret2;exact⟨rfl,c.out⟩
 change Calls _ _ _ _ (PairEnd (⟨#[105,110,102]⟩,0) w)
 go_enter func166,ntmps166
 go_wp2_with fail
 refine nxa d.out fun i c=>?_;go_wp2;go_ret2;exact⟨rfl,c.out⟩
theorem v4u {x:Rat} (i:fitQ x) (j:0<=x) (h:x<1):fitQ (1-x):=by
 have c:=v1j.1 i;rw[v1j,Rat.sub_def'];obtain⟨g,k⟩:=y7c (n:=(1:Rat).num*x.den-x.num*(1:Rat).den) (d:=(1:Rat).den*x.den) (Nat.mul_ne_zero (by decide) x.den_nz);have o:0<=x.num:=Rat.num_nonneg.2 j;have p:x.num<x.den:=by
  have:=(Rat.lt_iff x 1).1 h
  simpa using this
 have m:((1:Rat).num*x.den-x.num*(1:Rat).den).natAbs<=x.den:=by
  rw[Rat.one_num,Rat.one_den];omega
 have l:(1:Rat).den*x.den=x.den:=by rw[Rat.one_den,Nat.one_mul]
 exact⟨Nat.lt_of_le_of_lt (Nat.le_trans g m) c.2,Nat.lt_of_le_of_lt (Nat.le_trans k (Nat.le_of_eq l)) c.2⟩
theorem x1r (v:V) (w:World) (i:fitV v) (d:okV 2 v) (j:Tab w):Calls prog 163 #[.string (vtxt v)] w (PairEnd (limV (z1x 2 v)) w):=by
 have c1:=z4s v (.fin 1) w i x1g j;change Calls _ _ #[_,.string (txt 1)] _ _ at c1;rw[y4r] at c1
 rcases z2g d (by decide) with rfl|⟨x,rfl,H⟩
 ·have g:limV (z1x 2 .inf)=(infS,0):=rfl;have B:cmpV .inf (.fin 1)=1:=rfl;rw[g];rw[B] at c1;have m:=qh c1;clear c1 j i d g B;generalize vtxt .inf=a at *;unfold infS
  go_enter func163,ntmps163
  go_wp2_with fail
  refine nxa m.out fun A c=>?_;go_wp2;go_ret2;exact⟨rfl,c.out⟩
 have o:z1x 2 (.fin x)=if 0<=cmpQ x 1 then .inf else .fin (1 / (1-x)):=rfl
 have u:cmpV (.fin x) (.fin 1)=cmpQ x 1:=rfl;rw[u] at c1
 rcases z1k x 1 with ⟨h,e⟩|h
 ·have hf:=v4u i H h;have D:1-x≠0:=Rat.ne_of_gt ((Rat.lt_iff_sub_pos x 1).1 h);have g:limV (z1x 2 (.fin x))=limR (1 / (1-x)):=by rw[o,e];rfl
  have I:=z2x i;have J:=z2x hf;have c2:=fun l (h:Below w.heap.size w l)=>v5d ⟨#[49]⟩ (txt x) l (by decide) (by omega) (j.below h nlr);have c3:=fun l (h:Below w.heap.size w l)=>v4i ⟨#[49]⟩ (txt (1-x)) l (by decide) (by omega) (j.below h nlr);have C:v1u ⟨#[49]⟩ (txt x)=(txt (1-x),0):=by unfold v1u;rw[y7d,z2i i];exact z8c hf
  have E:y5h ⟨#[49]⟩ (txt (1-x))=limR (1 / (1-x)):=by unfold y5h;rw[y7d,z2i hf];exact if_neg D
  rw[C] at c2;rw[E] at c3;rw[e] at c1;rw[g];change Calls _ _ #[.string (txt x),_] _ _ at c1;change Calls _ _ #[.string (txt x)] _ _;generalize limR (1 / (1-x))=lr at *;obtain⟨ls,L⟩:=lr;generalize txt (1-x)=b at *;generalize txt x=a at *;have m:=qh c1;clear c1;have F:=qh c2;clear c2;have G:=qh c3;clear c3 j i d o u h e hf D g I J C E
  go_enter func163,ntmps163
  go_wp2_with fail
  refine nxa m.out fun A c=>?_
  go_wp2_with fail
  refine nxb (F.out _ c.out) c fun K k=>?_
  go_wp2_with fail
  refine nxb (G.out _ k.out) k fun N s=>?_;go_wp2;go_ret2;exact⟨rfl,s.out⟩
 have p:0<=cmpQ x 1:=by rcases h with ⟨_,e⟩|⟨_,e⟩<;>rw[e]<;>decide
 have g:limV (z1x 2 (.fin x))=(infS,0):=by rw[o,if_pos p];rfl
 rw[g];generalize cmpQ x 1=z at *;generalize vtxt (.fin x)=a at *;have m:=qh c1;clear c1 j i d o u h g;unfold infS
 go_enter func163,ntmps163
 go_wp2_with fail
 refine nxa m.out fun A c=>?_;go_wp2;go_ret2;exact⟨rfl,c.out⟩
end
section
open Go.RowKit
theorem v9q {k:Int} (c:k<1\/3<k) (a:ByteArray):vprs k a=none:=by
 cases h:vprs k a with
 | none=>rfl
 | some v=>have:=z3x (z3c.1 h).2;omega
theorem y0h {k:Int} (c:k<1\/3<k) (a:ByteArray):z0p k a=false:=by unfold z0p;rw[v9q c];rfl
theorem x9f {k:Int} {v:V} (h:wtV k v):k=1\/k=2\/k=3:=by cases v<;>simp only[wtV] at h<;>omega
theorem x7b {k:Int} (c:k<1\/3<k) (a:ByteArray):z0s k a=false:=by
 unfold z0s;cases rdV a with
 | none=>rfl
 | some v=>show decide (wtV k v)=false;rw[decide_eq_false_iff_not];intro h;have:=x9f h;omega
theorem v2u {k:Int} (c:k<1\/3<k):z4c k=false:=by unfold z4c;rw[Bool.and_eq_false_iff];simp;omega
theorem z2w (k:Int):k=1\/k=2\/k=3\/(k<1\/3<k):=by omega
theorem z3f {k:Int} {a:ByteArray} (h:z0p k a=true):∃ v,vprs k a=some v/\rdV a=some v/\okV k v/\a=vtxt v/\fitV v:=by
 unfold z0p at h;obtain⟨v,d⟩:=Option.isSome_iff_exists.1 h;obtain⟨c,g⟩:=z3c.1 d;exact⟨v,d,c,g,y2v c⟩
theorem y3x {k:Int} {a:ByteArray} (h:z0p k a=false):vprs k a=none:=by
 unfold z0p at h;cases c:vprs k a with
 | none=>rfl
 | some v=>rw[c] at h;simp at h
theorem y2z {k:Int} {a b:ByteArray} (h:z0p k a=false):z1i k a b=(⟨#[]⟩,1):=by unfold z1i;rw[y3x h];rfl
theorem y8v {k:Int} {a b:ByteArray} (h:z0p k b=false):z1i k a b=(⟨#[]⟩,1):=by unfold z1i;rw[y3x h];cases vprs k a<;>rfl
theorem y0a {k:Int} {a b:ByteArray} (h:z0p k a=false):z0n k a b=(⟨#[]⟩,1):=by unfold z0n;rw[y3x h];rfl
theorem y4k {k:Int} {a b:ByteArray} (h:z0p k b=false):z0n k a b=(⟨#[]⟩,1):=by unfold z0n;rw[y3x h];cases vprs k a<;>rfl
theorem y7u {k:Int} {a:ByteArray} (h:z0p k a=false):z5q k a=(⟨#[]⟩,1):=by unfold z5q;rw[y3x h];rfl
theorem z3k {w c:World} (h:Below (w.alloc (.cells #[.string ⟨#[105,110,102]⟩,.string ⟨#[48]⟩,.bool true,fv 157,fv 158,fv 159,fv 160,fv 160] 123)).heap.size (w.alloc (.cells #[.string ⟨#[105,110,102]⟩,.string ⟨#[48]⟩,.bool true,fv 157,fv 158,fv 159,fv 160,fv 160] 123)) c) :
  c.cell? ⟨w.heap.size,0,none⟩=some (.string ⟨#[105,110,102]⟩)/\c.cell? ⟨w.heap.size,1,none⟩=some (.string ⟨#[48]⟩)/\c.cell? ⟨w.heap.size,2,none⟩=some (.bool true)/\c.cell? ⟨w.heap.size,3,none⟩=some (fv 157)/\c.cell? ⟨w.heap.size,4,none⟩=some (fv 158)/\c.cell? ⟨w.heap.size,5,none⟩=some (fv 159)/\c.cell? ⟨w.heap.size,6,none⟩=some (fv 160)/\c.cell? ⟨w.heap.size,7,none⟩=some (fv 160) :=
 ⟨(cell_kept h 0).trans rfl,(cell_kept h 1).trans rfl,(cell_kept h 2).trans rfl,(cell_kept h 3).trans rfl,(cell_kept h 4).trans rfl,(cell_kept h 5).trans rfl,(cell_kept h 6).trans rfl,(cell_kept h 7).trans rfl⟩
theorem z3j {w c:World} (h:Below (w.alloc (.cells #[.string ⟨#[48]⟩,.string ⟨#[49]⟩,.bool false,fv 161,fv 162,fv 163,fv 164,fv 165] 123)).heap.size (w.alloc (.cells #[.string ⟨#[48]⟩,.string ⟨#[49]⟩,.bool false,fv 161,fv 162,fv 163,fv 164,fv 165] 123)) c) :
  c.cell? ⟨w.heap.size,0,none⟩=some (.string ⟨#[48]⟩)/\c.cell? ⟨w.heap.size,1,none⟩=some (.string ⟨#[49]⟩)/\c.cell? ⟨w.heap.size,2,none⟩=some (.bool false)/\c.cell? ⟨w.heap.size,3,none⟩=some (fv 161)/\c.cell? ⟨w.heap.size,4,none⟩=some (fv 162)/\c.cell? ⟨w.heap.size,5,none⟩=some (fv 163)/\c.cell? ⟨w.heap.size,6,none⟩=some (fv 164)/\c.cell? ⟨w.heap.size,7,none⟩=some (fv 165) :=
 ⟨(cell_kept h 0).trans rfl,(cell_kept h 1).trans rfl,(cell_kept h 2).trans rfl,(cell_kept h 3).trans rfl,(cell_kept h 4).trans rfl,(cell_kept h 5).trans rfl,(cell_kept h 6).trans rfl,(cell_kept h 7).trans rfl⟩
theorem z3h {w c:World} (h:Below (w.alloc (.cells #[.string ⟨#[48]⟩,.string ⟨#[49]⟩,.bool false,fv 157,fv 162,fv 166,fv 164,fv 165] 123)).heap.size (w.alloc (.cells #[.string ⟨#[48]⟩,.string ⟨#[49]⟩,.bool false,fv 157,fv 162,fv 166,fv 164,fv 165] 123)) c) :
  c.cell? ⟨w.heap.size,0,none⟩=some (.string ⟨#[48]⟩)/\c.cell? ⟨w.heap.size,1,none⟩=some (.string ⟨#[49]⟩)/\c.cell? ⟨w.heap.size,2,none⟩=some (.bool false)/\c.cell? ⟨w.heap.size,3,none⟩=some (fv 157)/\c.cell? ⟨w.heap.size,4,none⟩=some (fv 162)/\c.cell? ⟨w.heap.size,5,none⟩=some (fv 166)/\c.cell? ⟨w.heap.size,6,none⟩=some (fv 164)/\c.cell? ⟨w.heap.size,7,none⟩=some (fv 165) :=
 ⟨(cell_kept h 0).trans rfl,(cell_kept h 1).trans rfl,(cell_kept h 2).trans rfl,(cell_kept h 3).trans rfl,(cell_kept h 4).trans rfl,(cell_kept h 5).trans rfl,(cell_kept h 6).trans rfl,(cell_kept h 7).trans rfl⟩
theorem v4q (a:ByteArray) (w:World) (i:a.size<=9223372036854775807) (g:Tab w):Calls prog 154 #[.int .i64 1,.string a] w (BoolE (z0p 1 a) w):=by
 have c1:=fun j (h:Below w.heap.size w j)=>z5f a j i (g.below h nlr);generalize z0p 1 a=z at *;have c0:=of_1 w;unfold OfEnd at c0;unfold ring1 at *;have k:=qh c0;clear c0;have l:=qh c1;clear c1 i g
 go_enter func154,ntmps154
 go_wp2_with fail
 refine k.out.mono ?_;rintro e o ⟨rfl,hb⟩;have c:=qh (hb.alloc hb.size (.cells ring1 123));clear hb
 go_wp2_with fail
 refine nxb (l.out _ c.out) c fun m d=>?_;go_wp2;go_ret;exact⟨rfl,d.out⟩
theorem v3r (a:ByteArray) (w:World) (i:a.size<=9223372036854775807) (g:Tab w):Calls prog 154 #[.int .i64 2,.string a] w (BoolE (z0p 2 a) w):=by
 have c1:=fun j (h:Below w.heap.size w j)=>z5h a j i (g.below h nlr);generalize z0p 2 a=z at *;have c0:=of_2 w;unfold OfEnd at c0;unfold ring2 at *;have k:=qh c0;clear c0;have l:=qh c1;clear c1 i g
 go_enter func154,ntmps154
 go_wp2_with fail
 refine k.out.mono ?_;rintro e o ⟨rfl,hb⟩;have c:=qh (hb.alloc hb.size (.cells ring2 123));clear hb
 go_wp2_with fail
 refine nxb (l.out _ c.out) c fun m d=>?_;go_wp2;go_ret;exact⟨rfl,d.out⟩
theorem v7p (a:ByteArray) (w:World) (i:a.size<=9223372036854775807) (g:Tab w):Calls prog 154 #[.int .i64 3,.string a] w (BoolE (z0p 3 a) w):=by
 have c1:=fun j (h:Below w.heap.size w j)=>z5g a j i (g.below h nlr);generalize z0p 3 a=z at *;have c0:=of_3 w;unfold OfEnd at c0;unfold ring3 at *;have k:=qh c0;clear c0;have l:=qh c1;clear c1 i g
 go_enter func154,ntmps154
 go_wp2_with fail
 refine k.out.mono ?_;rintro e o ⟨rfl,hb⟩;have c:=qh (hb.alloc hb.size (.cells ring3 123));clear hb
 go_wp2_with fail
 refine nxb (l.out _ c.out) c fun m d=>?_;go_wp2;go_ret;exact⟨rfl,d.out⟩
theorem x7u (k:Int) (a:ByteArray) (w:World) (d:k<1\/3<k):Calls prog 154 #[.int .i64 k,.string a] w (BoolE (z0p k a) w):=by
 rw[y0h d];have c0:=x2b k w d;unfold OfEnd at c0;unfold ring0 at *;have g:=qh c0;clear c0
 go_enter func154,ntmps154
 go_wp2_with fail
 refine g.out.mono ?_;rintro e h ⟨rfl,hb⟩;have c:=qh (hb.alloc hb.size (.cells ring0 123));clear hb;go_wp2;go_ret;exact⟨rfl,c.out⟩
theorem y8e (k:Int) (a:ByteArray) (w:World) (d:a.size<=9223372036854775807) (c:Tab w):Calls prog 154 #[.int .i64 k,.string a] w (BoolE (z0p k a) w):=by
 rcases z2w k with rfl|rfl|rfl|g
 ·exact v4q a w d c
 ·exact v3r a w d c
 ·exact v7p a w d c
 exact x7u k a w g
theorem x6g (a:ByteArray) (w:World) (d:a.size<=9223372036854775807) (c:Tab w):Calls prog 160 #[.string a] w (BoolE (z0s 1 a) w):=by
 rw[x9v];exact y2b a w d c
theorem v2t (a:ByteArray) (w:World) (i:a.size<=9223372036854775807) (g:Tab w):Calls prog 75 #[.int .i64 1,.string a] w (BoolE (z0s 1 a) w):=by
 have c1:=fun j (h:Below w.heap.size w j)=>x6g a j i (g.below h nlr);generalize z0s 1 a=z at *;have c0:=of_1 w;unfold OfEnd at c0;unfold ring1 at *;have k:=qh c0;clear c0;have l:=qh c1;clear c1 i g
 go_enter func75,ntmps75
 go_wp2_with fail
 refine k.out.mono ?_;rintro e o ⟨rfl,hb⟩;have c:=qh (hb.alloc hb.size (.cells ring1 123));clear hb
 go_wp2_with fail
 refine nxb (l.out _ c.out) c fun m d=>?_;go_wp2;go_ret;exact⟨rfl,d.out⟩
theorem x7j (a:ByteArray) (w:World) (d:a.size<=9223372036854775807) (c:Tab w):Calls prog 165 #[.string a] w (BoolE (z0s 2 a) w):=by
 rw[y6j (k:=2) (by omega)];exact y2d a w d c
theorem v1q (a:ByteArray) (w:World) (i:a.size<=9223372036854775807) (g:Tab w):Calls prog 75 #[.int .i64 2,.string a] w (BoolE (z0s 2 a) w):=by
 have c1:=fun j (h:Below w.heap.size w j)=>x7j a j i (g.below h nlr);generalize z0s 2 a=z at *;have c0:=of_2 w;unfold OfEnd at c0;unfold ring2 at *;have k:=qh c0;clear c0;have l:=qh c1;clear c1 i g
 go_enter func75,ntmps75
 go_wp2_with fail
 refine k.out.mono ?_;rintro e o ⟨rfl,hb⟩;have c:=qh (hb.alloc hb.size (.cells ring2 123));clear hb
 go_wp2_with fail
 refine nxb (l.out _ c.out) c fun m d=>?_;go_wp2;go_ret;exact⟨rfl,d.out⟩
theorem x6d (a:ByteArray) (w:World) (d:a.size<=9223372036854775807) (c:Tab w):Calls prog 165 #[.string a] w (BoolE (z0s 3 a) w):=by
 rw[y6j (k:=3) (by omega)];exact y2d a w d c
theorem x8m (a:ByteArray) (w:World) (i:a.size<=9223372036854775807) (g:Tab w):Calls prog 75 #[.int .i64 3,.string a] w (BoolE (z0s 3 a) w):=by
 have c1:=fun j (h:Below w.heap.size w j)=>x6d a j i (g.below h nlr);generalize z0s 3 a=z at *;have c0:=of_3 w;unfold OfEnd at c0;unfold ring3 at *;have k:=qh c0;clear c0;have l:=qh c1;clear c1 i g
 go_enter func75,ntmps75
 go_wp2_with fail
 refine k.out.mono ?_;rintro e o ⟨rfl,hb⟩;have c:=qh (hb.alloc hb.size (.cells ring3 123));clear hb
 go_wp2_with fail
 refine nxb (l.out _ c.out) c fun m d=>?_;go_wp2;go_ret;exact⟨rfl,d.out⟩
theorem x5u (k:Int) (a:ByteArray) (w:World) (d:k<1\/3<k):Calls prog 75 #[.int .i64 k,.string a] w (BoolE (z0s k a) w):=by
 rw[x7b d];have c0:=x2b k w d;unfold OfEnd at c0;unfold ring0 at *;have g:=qh c0;clear c0
 go_enter func75,ntmps75
 go_wp2_with fail
 refine g.out.mono ?_;rintro e h ⟨rfl,hb⟩;have c:=qh (hb.alloc hb.size (.cells ring0 123));clear hb;go_wp2;go_ret;exact⟨rfl,c.out⟩
theorem z3b (k:Int) (a:ByteArray) (w:World) (d:a.size<=9223372036854775807) (c:Tab w):Calls prog 75 #[.int .i64 k,.string a] w (BoolE (z0s k a) w):=by
 rcases z2w k with rfl|rfl|rfl|g
 ·exact v2t a w d c
 ·exact v1q a w d c
 ·exact x8m a w d c
 exact x5u k a w g
theorem v2e:z1j 1=⟨#[105,110,102]⟩:=rfl
theorem x5q (w:World):Calls prog 122 #[.int .i64 1] w (StrE (z1j 1) w):=by
 rw[v2e];have c0:=of_1 w;unfold OfEnd at c0;unfold ring1 at *;have d:=qh c0;clear c0
 go_enter func122,ntmps122
 go_wp2_with fail
 refine d.out.mono ?_;rintro e g ⟨rfl,hb⟩;have c:=qh (hb.alloc hb.size (.cells ring1 123));clear hb;go_wp2;go_ret;exact⟨rfl,c.out⟩
theorem x7p:z1j 2=⟨#[48]⟩:=z5w
theorem x6j (w:World):Calls prog 122 #[.int .i64 2] w (StrE (z1j 2) w):=by
 rw[x7p];have c0:=of_2 w;unfold OfEnd at c0;unfold ring2 at *;have d:=qh c0;clear c0
 go_enter func122,ntmps122
 go_wp2_with fail
 refine d.out.mono ?_;rintro e g ⟨rfl,hb⟩;have c:=qh (hb.alloc hb.size (.cells ring2 123));clear hb;go_wp2;go_ret;exact⟨rfl,c.out⟩
theorem x8a:z1j 3=⟨#[48]⟩:=z5w
theorem x6y (w:World):Calls prog 122 #[.int .i64 3] w (StrE (z1j 3) w):=by
 rw[x8a];have c0:=of_3 w;unfold OfEnd at c0;unfold ring3 at *;have d:=qh c0;clear c0
 go_enter func122,ntmps122
 go_wp2_with fail
 refine d.out.mono ?_;rintro e g ⟨rfl,hb⟩;have c:=qh (hb.alloc hb.size (.cells ring3 123));clear hb;go_wp2;go_ret;exact⟨rfl,c.out⟩
theorem x4f {k:Int} (c:k<1\/3<k):z1j k=⟨#[]⟩:=by unfold z1j;rw[v2u c];rfl
theorem x2y (k:Int) (w:World) (d:k<1\/3<k):Calls prog 122 #[.int .i64 k] w (StrE (z1j k) w):=by
 rw[x4f d];have c0:=x2b k w d;unfold OfEnd at c0;unfold ring0 at *;have g:=qh c0;clear c0
 go_enter func122,ntmps122
 go_wp2_with fail
 refine g.out.mono ?_;rintro e h ⟨rfl,hb⟩;have c:=qh (hb.alloc hb.size (.cells ring0 123));clear hb;go_wp2;go_ret;exact⟨rfl,c.out⟩
theorem z4p (k:Int) (w:World):Calls prog 122 #[.int .i64 k] w (StrE (z1j k) w):=by
 rcases z2w k with rfl|rfl|rfl|c
 ·exact x5q w
 ·exact x6j w
 ·exact x6y w
 exact x2y k w c
theorem v8t:oneF 1=⟨#[48]⟩:=z5w
theorem v0v (w:World):Calls prog 60 #[.int .i64 1] w (StrE (oneF 1) w):=by
 rw[v8t];have c0:=of_1 w;unfold OfEnd at c0;unfold ring1 at *;have d:=qh c0;clear c0
 go_enter func60,ntmps60
 go_wp2_with fail
 refine d.out.mono ?_;rintro e g ⟨rfl,hb⟩;have c:=qh (hb.alloc hb.size (.cells ring1 123));clear hb;go_wp2;go_ret;exact⟨rfl,c.out⟩
theorem v8s:oneF 2=⟨#[49]⟩:=y4r
theorem x7k (w:World):Calls prog 60 #[.int .i64 2] w (StrE (oneF 2) w):=by
 rw[v8s];have c0:=of_2 w;unfold OfEnd at c0;unfold ring2 at *;have d:=qh c0;clear c0
 go_enter func60,ntmps60
 go_wp2_with fail
 refine d.out.mono ?_;rintro e g ⟨rfl,hb⟩;have c:=qh (hb.alloc hb.size (.cells ring2 123));clear hb;go_wp2;go_ret;exact⟨rfl,c.out⟩
theorem v8n:oneF 3=⟨#[49]⟩:=y4r
theorem v1z (w:World):Calls prog 60 #[.int .i64 3] w (StrE (oneF 3) w):=by
 rw[v8n];have c0:=of_3 w;unfold OfEnd at c0;unfold ring3 at *;have d:=qh c0;clear c0
 go_enter func60,ntmps60
 go_wp2_with fail
 refine d.out.mono ?_;rintro e g ⟨rfl,hb⟩;have c:=qh (hb.alloc hb.size (.cells ring3 123));clear hb;go_wp2;go_ret;exact⟨rfl,c.out⟩
theorem x9z {k:Int} (c:k<1\/3<k):oneF k=⟨#[]⟩:=by unfold oneF;rw[v2u c];rfl
theorem x5x (k:Int) (w:World) (d:k<1\/3<k):Calls prog 60 #[.int .i64 k] w (StrE (oneF k) w):=by
 rw[x9z d];have c0:=x2b k w d;unfold OfEnd at c0;unfold ring0 at *;have g:=qh c0;clear c0
 go_enter func60,ntmps60
 go_wp2_with fail
 refine g.out.mono ?_;rintro e h ⟨rfl,hb⟩;have c:=qh (hb.alloc hb.size (.cells ring0 123));clear hb;go_wp2;go_ret;exact⟨rfl,c.out⟩
theorem z6s (k:Int) (w:World):Calls prog 60 #[.int .i64 k] w (StrE (oneF k) w):=by
 rcases z2w k with rfl|rfl|rfl|c
 ·exact v0v w
 ·exact x7k w
 ·exact v1z w
 exact x5x k w c
theorem v9w (a b:ByteArray) (w:World) (z:a.size<=9223372036854775807) (hb:b.size<=9223372036854775807) (l:Tab w):Calls prog 153 #[.int .i64 1,.string a,.string b] w (PairEnd (z1i 1 a b) w):=by
 have c1:=fun j (h:Below w.heap.size w j)=>z5f a j z (l.below h nlr);have c2:=fun j (h:Below w.heap.size w j)=>z5f b j hb (l.below h nlr);cases k:z0p 1 a with
 | false =>
  rw[y2z k];rw[k] at c1;clear k c2 z hb l;have c0:=of_1 w;unfold OfEnd at c0;unfold ring1 at *;have s:=qh c0;clear c0;have o:=qh c1;clear c1
  go_enter func153,ntmps153
  go_wp2_with fail
  refine s.out.mono ?_;rintro e F ⟨rfl,hb⟩;have c:=qh (hb.alloc hb.size (.cells ring1 123));clear hb
  go_wp2_with fail
  refine nxb (o.out _ c.out) c fun L d=>?_;go_wp2;go_ret2;exact⟨rfl,d.out⟩
 | true =>
  cases m:z0p 1 b with
  | false =>
   rw[y8v m];rw[k] at c1;rw[m] at c2;clear k m z hb l;have c0:=of_1 w;unfold OfEnd at c0;unfold ring1 at *;have s:=qh c0;clear c0;have o:=qh c1;clear c1;have A:=qh c2;clear c2
   go_enter func153,ntmps153
   go_wp2_with fail
   refine s.out.mono ?_;rintro e F ⟨rfl,hb⟩;have c:=qh (hb.alloc hb.size (.cells ring1 123));clear hb
   go_wp2_with fail
   refine(o.out _ c.out).mono ?_;rintro e L ⟨rfl,hb⟩;have i:=qh (hb);have d:=qh (z0a c.out hb);clear hb;obtain⟨q0,q1,q2,q3,q4,q5,q6,B⟩:=z3k i.out
   go_wp2_with fail
   refine nxb (A.out _ d.out) d fun R g=>?_;go_wp2;go_ret2;exact⟨rfl,g.out⟩
  | true =>
   rw[k] at c1;rw[m] at c2;obtain⟨v,J,rv,N,I,p⟩:=z3f k;obtain⟨u,E,O,Q,H,K⟩:=z3f m;clear k m;have G:z1i 1 a b=limV (z1m 1 v u):=by unfold z1i;rw[J,E]
   have c3:=fun j (h:Below w.heap.size w j)=>x2z v u j p K (l.below h nlr);rw[<- I,<- H,<- G] at c3;generalize z1i 1 a b=r at *;obtain⟨T,U⟩:=r;clear G J rv N I p E O Q H K z hb l;have c0:=of_1 w;unfold OfEnd at c0;unfold ring1 at *;have s:=qh c0;clear c0;have o:=qh c1;clear c1;have A:=qh c2;clear c2;have P:=qh c3;clear c3
   go_enter func153,ntmps153
   go_wp2_with fail
   refine s.out.mono ?_;rintro e F ⟨rfl,hb⟩;have c:=qh (hb.alloc hb.size (.cells ring1 123));clear hb
   go_wp2_with fail
   refine(o.out _ c.out).mono ?_;rintro e L ⟨rfl,hb⟩;have i:=qh (hb);have d:=qh (z0a c.out hb);clear hb;obtain⟨q0,q1,q2,q3,q4,q5,q6,B⟩:=z3k i.out
   go_wp2_with fail
   refine(A.out _ d.out).mono ?_;rintro e R ⟨rfl,hb⟩;clear q0 q1 q2 q3 q4 q5 q6 B;have D:=qh (z0a i.out hb);have g:=qh (z0a d.out hb);clear hb;obtain⟨q0,q1,q2,q3,q4,q5,q6,B⟩:=z3k D.out
   go_wp2_with fail
   refine nxb (P.out _ g.out) g fun S C=>?_;go_wp2;go_ret2;exact⟨rfl,C.out⟩
theorem u0a (a b:ByteArray) (w:World) (z:a.size<=9223372036854775807) (hb:b.size<=9223372036854775807) (l:Tab w):Calls prog 153 #[.int .i64 2,.string a,.string b] w (PairEnd (z1i 2 a b) w):=by
 have c1:=fun j (h:Below w.heap.size w j)=>z5h a j z (l.below h nlr);have c2:=fun j (h:Below w.heap.size w j)=>z5h b j hb (l.below h nlr);cases k:z0p 2 a with
 | false =>
  rw[y2z k];rw[k] at c1;clear k c2 z hb l;have c0:=of_2 w;unfold OfEnd at c0;unfold ring2 at *;have s:=qh c0;clear c0;have o:=qh c1;clear c1
  go_enter func153,ntmps153
  go_wp2_with fail
  refine s.out.mono ?_;rintro e G ⟨rfl,hb⟩;have c:=qh (hb.alloc hb.size (.cells ring2 123));clear hb
  go_wp2_with fail
  refine nxb (o.out _ c.out) c fun O d=>?_;go_wp2;go_ret2;exact⟨rfl,d.out⟩
 | true =>
  cases m:z0p 2 b with
  | false =>
   rw[y8v m];rw[k] at c1;rw[m] at c2;clear k m z hb l;have c0:=of_2 w;unfold OfEnd at c0;unfold ring2 at *;have s:=qh c0;clear c0;have o:=qh c1;clear c1;have A:=qh c2;clear c2
   go_enter func153,ntmps153
   go_wp2_with fail
   refine s.out.mono ?_;rintro e G ⟨rfl,hb⟩;have c:=qh (hb.alloc hb.size (.cells ring2 123));clear hb
   go_wp2_with fail
   refine(o.out _ c.out).mono ?_;rintro e O ⟨rfl,hb⟩;have i:=qh (hb);have d:=qh (z0a c.out hb);clear hb;obtain⟨q0,q1,q2,q3,q4,q5,q6,B⟩:=z3j i.out
   go_wp2_with fail
   refine nxb (A.out _ d.out) d fun R g=>?_;go_wp2;go_ret2;exact⟨rfl,g.out⟩
  | true =>
   rw[k] at c1;rw[m] at c2;obtain⟨v,L,rv,F,K,p⟩:=z3f k;obtain⟨u,E,P,I,J,N⟩:=z3f m;clear k m;have H:z1i 2 a b=limV (z1m 2 v u):=by unfold z1i;rw[L,E]
   have c3:=fun j (h:Below w.heap.size w j)=>u0q v u j p N (z0q F (by decide)) (z0q I (by decide)) (l.below h nlr);rw[<- K,<- J,<- H] at c3;generalize z1i 2 a b=r at *;obtain⟨T,U⟩:=r;clear H L rv F K p E P I J N z hb l;have c0:=of_2 w;unfold OfEnd at c0;unfold ring2 at *;have s:=qh c0;clear c0;have o:=qh c1;clear c1;have A:=qh c2;clear c2;have Q:=qh c3;clear c3
   go_enter func153,ntmps153
   go_wp2_with fail
   refine s.out.mono ?_;rintro e G ⟨rfl,hb⟩;have c:=qh (hb.alloc hb.size (.cells ring2 123));clear hb
   go_wp2_with fail
   refine(o.out _ c.out).mono ?_;rintro e O ⟨rfl,hb⟩;have i:=qh (hb);have d:=qh (z0a c.out hb);clear hb;obtain⟨q0,q1,q2,q3,q4,q5,q6,B⟩:=z3j i.out
   go_wp2_with fail
   refine(A.out _ d.out).mono ?_;rintro e R ⟨rfl,hb⟩;clear q0 q1 q2 q3 q4 q5 q6 B;have D:=qh (z0a i.out hb);have g:=qh (z0a d.out hb);clear hb;obtain⟨q0,q1,q2,q3,q4,q5,q6,B⟩:=z3j D.out
   go_wp2_with fail
   refine nxb (Q.out _ g.out) g fun S C=>?_;go_wp2;go_ret2;exact⟨rfl,C.out⟩
theorem u1t (a b:ByteArray) (w:World) (z:a.size<=9223372036854775807) (hb:b.size<=9223372036854775807) (l:Tab w):Calls prog 153 #[.int .i64 3,.string a,.string b] w (PairEnd (z1i 3 a b) w):=by
 have c1:=fun j (h:Below w.heap.size w j)=>z5g a j z (l.below h nlr);have c2:=fun j (h:Below w.heap.size w j)=>z5g b j hb (l.below h nlr);cases k:z0p 3 a with
 | false =>
  rw[y2z k];rw[k] at c1;clear k c2 z hb l;have c0:=of_3 w;unfold OfEnd at c0;unfold ring3 at *;have s:=qh c0;clear c0;have o:=qh c1;clear c1
  go_enter func153,ntmps153
  go_wp2_with fail
  refine s.out.mono ?_;rintro e F ⟨rfl,hb⟩;have c:=qh (hb.alloc hb.size (.cells ring3 123));clear hb
  go_wp2_with fail
  refine nxb (o.out _ c.out) c fun L d=>?_;go_wp2;go_ret2;exact⟨rfl,d.out⟩
 | true =>
  cases m:z0p 3 b with
  | false =>
   rw[y8v m];rw[k] at c1;rw[m] at c2;clear k m z hb l;have c0:=of_3 w;unfold OfEnd at c0;unfold ring3 at *;have s:=qh c0;clear c0;have o:=qh c1;clear c1;have A:=qh c2;clear c2
   go_enter func153,ntmps153
   go_wp2_with fail
   refine s.out.mono ?_;rintro e F ⟨rfl,hb⟩;have c:=qh (hb.alloc hb.size (.cells ring3 123));clear hb
   go_wp2_with fail
   refine(o.out _ c.out).mono ?_;rintro e L ⟨rfl,hb⟩;have i:=qh (hb);have d:=qh (z0a c.out hb);clear hb;obtain⟨q0,q1,q2,q3,q4,q5,q6,B⟩:=z3h i.out
   go_wp2_with fail
   refine nxb (A.out _ d.out) d fun R g=>?_;go_wp2;go_ret2;exact⟨rfl,g.out⟩
  | true =>
   rw[k] at c1;rw[m] at c2;obtain⟨v,J,rv,N,I,p⟩:=z3f k;obtain⟨u,E,O,Q,H,K⟩:=z3f m;clear k m;have G:z1i 3 a b=limV (z1m 3 v u):=by unfold z1i;rw[J,E]
   have c3:=fun j (h:Below w.heap.size w j)=>x1j v u j p K (l.below h nlr);rw[<- I,<- H,<- G] at c3;generalize z1i 3 a b=r at *;obtain⟨T,U⟩:=r;clear G J rv N I p E O Q H K z hb l;have c0:=of_3 w;unfold OfEnd at c0;unfold ring3 at *;have s:=qh c0;clear c0;have o:=qh c1;clear c1;have A:=qh c2;clear c2;have P:=qh c3;clear c3
   go_enter func153,ntmps153
   go_wp2_with fail
   refine s.out.mono ?_;rintro e F ⟨rfl,hb⟩;have c:=qh (hb.alloc hb.size (.cells ring3 123));clear hb
   go_wp2_with fail
   refine(o.out _ c.out).mono ?_;rintro e L ⟨rfl,hb⟩;have i:=qh (hb);have d:=qh (z0a c.out hb);clear hb;obtain⟨q0,q1,q2,q3,q4,q5,q6,B⟩:=z3h i.out
   go_wp2_with fail
   refine(A.out _ d.out).mono ?_;rintro e R ⟨rfl,hb⟩;clear q0 q1 q2 q3 q4 q5 q6 B;have D:=qh (z0a i.out hb);have g:=qh (z0a d.out hb);clear hb;obtain⟨q0,q1,q2,q3,q4,q5,q6,B⟩:=z3h D.out
   go_wp2_with fail
   refine nxb (P.out _ g.out) g fun S C=>?_;go_wp2;go_ret2;exact⟨rfl,C.out⟩
theorem v6a (k:Int) (a b:ByteArray) (w:World) (d:k<1\/3<k):Calls prog 153 #[.int .i64 k,.string a,.string b] w (PairEnd (z1i k a b) w):=by
 rw[y2z (y0h d a)];have c0:=x2b k w d;unfold OfEnd at c0;unfold ring0 at *;have g:=qh c0;clear c0
 go_enter func153,ntmps153
 go_wp2_with fail
 refine g.out.mono ?_;rintro e h ⟨rfl,hb⟩;have c:=qh (hb.alloc hb.size (.cells ring0 123));clear hb;go_wp2;go_ret2;exact⟨rfl,c.out⟩
theorem y1z (k:Int) (a b:ByteArray) (w:World) (d:a.size<=9223372036854775807) (hb:b.size<=9223372036854775807) (c:Tab w):Calls prog 153 #[.int .i64 k,.string a,.string b] w (PairEnd (z1i k a b) w):=by
 rcases z2w k with rfl|rfl|rfl|g
 ·exact v9w a b w d hb c
 ·exact u0a a b w d hb c
 ·exact u1t a b w d hb c
 exact v6a k a b w g
end
section
open Go.RowKit
theorem v9x (a:ByteArray) (w:World) (l:a.size<=9223372036854775807) (k:Tab w):Calls prog 216 #[.int .i64 1,.string a] w (PairEnd (z5q 1 a) w):=by
 have c1:=fun j (h:Below w.heap.size w j)=>z5f a j l (k.below h nlr);cases g:z0p 1 a with
 | false =>
  rw[y7u g];rw[g] at c1;clear g l k;have c0:=of_1 w;unfold OfEnd at c0;unfold ring1 at *;have p:=qh c0;clear c0;have m:=qh c1;clear c1
  go_enter func216,ntmps216
  go_wp2_with fail
  refine p.out.mono ?_;rintro e C ⟨rfl,hb⟩;have c:=qh (hb.alloc hb.size (.cells ring1 123));clear hb
  go_wp2_with fail
  refine nxb (m.out _ c.out) c fun E d=>?_;go_wp2;go_ret2;exact⟨rfl,d.out⟩
 | true =>
  rw[g] at c1;obtain⟨v,A,rv,B,z,i⟩:=z3f g;have u:z5q 1 a=limV (z1x 1 v):=by unfold z5q;rw[A]
  have c3:=fun j (h:Below w.heap.size w j)=>x1n v j i (k.below h nlr);rw[<- z,<- u] at c3;generalize z5q 1 a=r at *;obtain⟨G,H⟩:=r;clear g u A rv B z i l k;have c0:=of_1 w;unfold OfEnd at c0;unfold ring1 at *;have p:=qh c0;clear c0;have m:=qh c1;clear c1;have D:=qh c3;clear c3
  go_enter func216,ntmps216
  go_wp2_with fail
  refine p.out.mono ?_;rintro e C ⟨rfl,hb⟩;have c:=qh (hb.alloc hb.size (.cells ring1 123));clear hb
  go_wp2_with fail
  refine(m.out _ c.out).mono ?_;rintro e E ⟨rfl,hb⟩;have s:=qh (hb);have d:=qh (z0a c.out hb);clear hb;obtain⟨q0,q1,q2,q3,q4,q5,q6,F⟩:=z3k s.out
  go_wp2_with fail
  refine nxb (D.out _ d.out) d fun I o=>?_;go_wp2;go_ret2;exact⟨rfl,o.out⟩
theorem u2b (a:ByteArray) (w:World) (l:a.size<=9223372036854775807) (k:Tab w):Calls prog 216 #[.int .i64 2,.string a] w (PairEnd (z5q 2 a) w):=by
 have c1:=fun j (h:Below w.heap.size w j)=>z5h a j l (k.below h nlr);cases g:z0p 2 a with
 | false =>
  rw[y7u g];rw[g] at c1;clear g l k;have c0:=of_2 w;unfold OfEnd at c0;unfold ring2 at *;have p:=qh c0;clear c0;have m:=qh c1;clear c1
  go_enter func216,ntmps216
  go_wp2_with fail
  refine p.out.mono ?_;rintro e C ⟨rfl,hb⟩;have c:=qh (hb.alloc hb.size (.cells ring2 123));clear hb
  go_wp2_with fail
  refine nxb (m.out _ c.out) c fun E d=>?_;go_wp2;go_ret2;exact⟨rfl,d.out⟩
 | true =>
  rw[g] at c1;obtain⟨v,B,rv,u,A,i⟩:=z3f g;have z:z5q 2 a=limV (z1x 2 v):=by unfold z5q;rw[B]
  have c3:=fun j (h:Below w.heap.size w j)=>x1r v j i u (k.below h nlr);rw[<- A,<- z] at c3;generalize z5q 2 a=r at *;obtain⟨G,H⟩:=r;clear g z B rv u A i l k;have c0:=of_2 w;unfold OfEnd at c0;unfold ring2 at *;have p:=qh c0;clear c0;have m:=qh c1;clear c1;have D:=qh c3;clear c3
  go_enter func216,ntmps216
  go_wp2_with fail
  refine p.out.mono ?_;rintro e C ⟨rfl,hb⟩;have c:=qh (hb.alloc hb.size (.cells ring2 123));clear hb
  go_wp2_with fail
  refine(m.out _ c.out).mono ?_;rintro e E ⟨rfl,hb⟩;have s:=qh (hb);have d:=qh (z0a c.out hb);clear hb;obtain⟨q0,q1,q2,q3,q4,q5,q6,F⟩:=z3j s.out
  go_wp2_with fail
  refine nxb (D.out _ d.out) d fun I o=>?_;go_wp2;go_ret2;exact⟨rfl,o.out⟩
theorem v9c (a:ByteArray) (w:World) (l:a.size<=9223372036854775807) (k:Tab w):Calls prog 216 #[.int .i64 3,.string a] w (PairEnd (z5q 3 a) w):=by
 have c1:=fun j (h:Below w.heap.size w j)=>z5g a j l (k.below h nlr);cases g:z0p 3 a with
 | false =>
  rw[y7u g];rw[g] at c1;clear g l k;have c0:=of_3 w;unfold OfEnd at c0;unfold ring3 at *;have p:=qh c0;clear c0;have m:=qh c1;clear c1
  go_enter func216,ntmps216
  go_wp2_with fail
  refine p.out.mono ?_;rintro e C ⟨rfl,hb⟩;have c:=qh (hb.alloc hb.size (.cells ring3 123));clear hb
  go_wp2_with fail
  refine nxb (m.out _ c.out) c fun E d=>?_;go_wp2;go_ret2;exact⟨rfl,d.out⟩
 | true =>
  rw[g] at c1;obtain⟨v,A,rv,B,z,i⟩:=z3f g;have u:z5q 3 a=limV (z1x 3 v):=by unfold z5q;rw[A]
  have c3:=fun j (h:Below w.heap.size w j)=>y9y v j i (k.below h nlr);rw[<- z,<- u] at c3;generalize z5q 3 a=r at *;obtain⟨G,H⟩:=r;clear g u A rv B z i l k;have c0:=of_3 w;unfold OfEnd at c0;unfold ring3 at *;have p:=qh c0;clear c0;have m:=qh c1;clear c1;have D:=qh c3;clear c3
  go_enter func216,ntmps216
  go_wp2_with fail
  refine p.out.mono ?_;rintro e C ⟨rfl,hb⟩;have c:=qh (hb.alloc hb.size (.cells ring3 123));clear hb
  go_wp2_with fail
  refine(m.out _ c.out).mono ?_;rintro e E ⟨rfl,hb⟩;have s:=qh (hb);have d:=qh (z0a c.out hb);clear hb;obtain⟨q0,q1,q2,q3,q4,q5,q6,F⟩:=z3h s.out
  go_wp2_with fail
  refine nxb (D.out _ d.out) d fun I o=>?_;go_wp2;go_ret2;exact⟨rfl,o.out⟩
theorem v5e (k:Int) (a:ByteArray) (w:World) (d:k<1\/3<k):Calls prog 216 #[.int .i64 k,.string a] w (PairEnd (z5q k a) w):=by
 rw[y7u (y0h d a)];have c0:=x2b k w d;unfold OfEnd at c0;unfold ring0 at *;have g:=qh c0;clear c0
 go_enter func216,ntmps216
 go_wp2_with fail
 refine g.out.mono ?_;rintro e h ⟨rfl,hb⟩;have c:=qh (hb.alloc hb.size (.cells ring0 123));clear hb;go_wp2;go_ret2;exact⟨rfl,c.out⟩
theorem y9j (k:Int) (a:ByteArray) (w:World) (d:a.size<=9223372036854775807) (c:Tab w):Calls prog 216 #[.int .i64 k,.string a] w (PairEnd (z5q k a) w):=by
 rcases z2w k with rfl|rfl|rfl|g
 ·exact v9x a w d c
 ·exact u2b a w d c
 ·exact v9c a w d c
 exact v5e k a w g
end
section
open Go.RowKit
end
section
open Go.RowKit
theorem index3a0 (w:World):(Instr.index 126 (.agg #[.string ⟨#[105,110,102]⟩,.string ⟨#[105,110,102]⟩,.string ⟨#[45,105,110,102]⟩]) (.int .i64 0)).run prog w=.ok (.string ⟨#[105,110,102]⟩) w:=by kernel_rfl
theorem index3a1 (w:World):(Instr.index 126 (.agg #[.string ⟨#[105,110,102]⟩,.string ⟨#[105,110,102]⟩,.string ⟨#[45,105,110,102]⟩]) (.int .i64 1)).run prog w=.ok (.string ⟨#[105,110,102]⟩) w:=by kernel_rfl
theorem index3a2 (w:World):(Instr.index 126 (.agg #[.string ⟨#[105,110,102]⟩,.string ⟨#[105,110,102]⟩,.string ⟨#[45,105,110,102]⟩]) (.int .i64 2)).run prog w=.ok (.string ⟨#[45,105,110,102]⟩) w:=by kernel_rfl
theorem index3b0 (w:World):(Instr.index 126 (.agg #[.string ⟨#[48]⟩,.string ⟨#[105,110,102]⟩,.string ⟨#[45,105,110,102]⟩]) (.int .i64 0)).run prog w=.ok (.string ⟨#[48]⟩) w:=by kernel_rfl
theorem index3b1 (w:World):(Instr.index 126 (.agg #[.string ⟨#[48]⟩,.string ⟨#[105,110,102]⟩,.string ⟨#[45,105,110,102]⟩]) (.int .i64 1)).run prog w=.ok (.string ⟨#[105,110,102]⟩) w:=by kernel_rfl
theorem index3b2 (w:World):(Instr.index 126 (.agg #[.string ⟨#[48]⟩,.string ⟨#[105,110,102]⟩,.string ⟨#[45,105,110,102]⟩]) (.int .i64 2)).run prog w=.ok (.string ⟨#[45,105,110,102]⟩) w:=by kernel_rfl
theorem x5r {v:V} (h:fitV v):((vtxt v).toList==[105,110,102])=decide (v=.inf):=by
 cases v with
 | inf=>show (infS.toList==_)=_;rw[z2v];rfl
 | low=>show (lowS.toList==_)=_;rw[z5t];rfl
 | fin q=>show ((txt q).toList==_)=_;rw[z8g h];rfl
theorem x7h {v:V} (h:fitV v):((vtxt v).toList==[45,105,110,102])=decide (v=.low):=by
 cases v with
 | inf=>show (infS.toList==_)=_;rw[z2v];rfl
 | low=>show (lowS.toList==_)=_;rw[z5t];rfl
 | fin q=>show ((txt q).toList==_)=_;rw[y6b h];rfl
theorem y5q {v:V} (h:fitV v):((vtxt v).toList==[48])=decide (v=.fin 0):=by
 cases v with
 | inf=>show (infS.toList==_)=_;rw[z2v];rfl
 | low=>show (lowS.toList==_)=_;rw[z5t];rfl
 | fin q =>
  show ((txt q).toList==_)=_;by_cases c:q=0
  ·subst c;rw[z5w,Lib.toList_data];simp
  rw[decide_eq_false (fun e=>c (by injection e))];exact z4m (l:=[48]) (fun e=>c (u1u h y2y (e.trans z5w.symm)))
theorem z8e:limV .inf=(⟨#[105,110,102]⟩,0):=rfl
theorem x4k:limV .low=(⟨#[45,105,110,102]⟩,0):=rfl
theorem z9w:limV (.fin 0)=(⟨#[48]⟩,0):=(z8c y2y).trans (by rw[z5w])
theorem v7b (a b:ByteArray) (w:World) (L:a.size<=9223372036854775807) (hb:b.size<=9223372036854775807) (D:Tab w):Calls prog 44 #[.int .i64 1,.string a,.string b] w (PairEnd (z0n 1 a b) w):=by
 have c1:=fun A (h:Below w.heap.size w A)=>z5f a A L (D.below h nlr);have c2:=fun A (h:Below w.heap.size w A)=>z5f b A hb (D.below h nlr);cases s:z0p 1 a with
 | false =>
  rw[y0a s];rw[s] at c1;clear s c2 L hb D;have c0:=of_1 w;unfold OfEnd at c0;unfold ring1 at *;have K:=qh c0;clear c0;have I:=qh c1;clear c1
  go_enter func44,ntmps44
  go_wp2_with fail
  refine K.out.mono ?_;rintro e w1 ⟨rfl,hb⟩;have c:=qh (hb.alloc hb.size (.cells ring1 123));clear hb
  go_wp2_with fail
  refine nxb (I.out _ c.out) c fun w2 i=>?_;go_wp2;go_ret2;exact⟨rfl,i.out⟩
 | true =>
  cases E:z0p 1 b with
  | false =>
   rw[y4k E];rw[s] at c1;rw[E] at c2;clear s E L hb D;have c0:=of_1 w;unfold OfEnd at c0;unfold ring1 at *;have K:=qh c0;clear c0;have I:=qh c1;clear c1;have O:=qh c2;clear c2
   go_enter func44,ntmps44
   go_wp2_with fail
   refine K.out.mono ?_;rintro e w1 ⟨rfl,hb⟩;have c:=qh (hb.alloc hb.size (.cells ring1 123));clear hb
   go_wp2_with fail
   refine(I.out _ c.out).mono ?_;rintro e w2 ⟨rfl,hb⟩;have p:=qh (hb);have i:=qh (z0a c.out hb);clear hb;obtain⟨q0,q1,q2,q3,q4,q5,q6,Y⟩:=z3k p.out
   go_wp2_with fail
   refine nxb (O.out _ i.out) i fun w3 d=>?_;go_wp2;go_ret2;exact⟨rfl,d.out⟩
  | true =>
   rw[s] at c1;rw[E] at c2;obtain⟨v,pv,rv,ov,T,k⟩:=z3f s;obtain⟨u,pu,ru,ou,S,J⟩:=z3f E;clear s E;have hr:z0n 1 a b=limV (z0i 1 v u):=by unfold z0n;rw[pv,pu]
   have P:=index3a0;have U:=index3a1;have Z:=index3a2;have F:=x5r k;have z:=x7h k;have o:=y5q k;have C:=x5r J;have l:=x7h J;have m:=y5q J;rw[<- T] at F z o;rw[<- S] at C l m;have c0:=of_1 w;unfold OfEnd at c0;unfold ring1 at *;have K:=qh c0;clear c0;have I:=qh c1;clear c1;have O:=qh c2;clear c2;rw[hr];obtain⟨r,B⟩:=exq (limV (z0i 1 v u));rw[<- B];obtain⟨G,H⟩:=r;have j:=qh B;clear B;have HX:=qh (And.intro P (And.intro U Z));clear P U Z;have W:=qh (And.intro F (And.intro z o));clear F z o;have Q:=qh (And.intro C (And.intro l m));clear C l m;have EA:=qh T;have EB:=qh S;have FA:=qh k;have FB:=qh J;have OV:=qh ov;have OU:=qh ou;clear hr pv rv ov T k pu ru ou S J L hb;have HT:=qh D;clear D
   go_enter func44,ntmps44
   go_wp2_with fail
   refine K.out.mono ?_;rintro e w1 ⟨rfl,hb⟩;have c:=qh (hb.alloc hb.size (.cells ring1 123));clear hb
   go_wp2_with fail
   refine(I.out _ c.out).mono ?_;rintro e w2 ⟨rfl,hb⟩;have p:=qh (hb);have i:=qh (z0a c.out hb);clear hb;obtain⟨q0,q1,q2,q3,q4,q5,q6,Y⟩:=z3k p.out
   go_wp2_with fail
   refine(O.out _ i.out).mono ?_;rintro e w3 ⟨rfl,hb⟩;clear q0 q1 q2 q3 q4 q5 q6 Y;have a1:=qh (z0a p.out hb);have d:=qh (z0a i.out hb);clear hb;obtain⟨q0,q1,q2,q3,q4,q5,q6,Y⟩:=z3k a1.out
   go_wp2_with fail
   obtain⟨P,U,Z⟩:=HX.out;obtain⟨F,z,o⟩:=W.out;obtain⟨C,l,m⟩:=Q.out;by_cases v1:v=.inf
   ·subst v1;simp only[decide_true] at F;clear z o C l m;have g:G=⟨#[105,110,102]⟩/\H=0:=by
     have:=j.out;rw[show z0i 1 _ _=.inf from by rw[times1],z8e] at this;injection this with e1 e2;exact⟨e1,e2⟩
    obtain⟨rfl,rfl⟩:=g;refine wp_loop_rounds 4 ?_;rw[rounds_succ];go_wp2;go_ret2;exact⟨rfl,d.out⟩
   rw[decide_eq_false v1] at F;by_cases N:u=.inf
   ·subst N;simp only[decide_true] at C;clear z o l m;have g:G=⟨#[105,110,102]⟩/\H=0:=by
     have:=j.out;rw[show z0i 1 _ _=.inf from by rw[times1];cases v<;>first|rfl|exact absurd rfl v1,z8e] at this
     injection this with e1 e2;exact⟨e1,e2⟩
    obtain⟨rfl,rfl⟩:=g;refine wp_loop_rounds 4 ?_;rw[rounds_succ];go_wp2;go_ret2;exact⟨rfl,d.out⟩
   rw[decide_eq_false N] at C;by_cases v2:v=.low
   ·subst v2;simp only[decide_true] at z;clear o l m;have g:G=⟨#[45,105,110,102]⟩/\H=0:=by
     have:=j.out;rw[show z0i 1 _ _=.low from by rw[times1];cases u<;>first|rfl|exact absurd rfl N,x4k] at this
     injection this with e1 e2;exact⟨e1,e2⟩
    obtain⟨rfl,rfl⟩:=g;refine wp_loop_rounds 4 ?_;rw[rounds_succ];go_wp2_with fail;rw[rounds_succ];go_wp2_with fail;rw[rounds_succ];go_wp2;go_ret2;exact⟨rfl,d.out⟩
   rw[decide_eq_false v2] at z;by_cases X:u=.low
   ·subst X;simp only[decide_true] at l;clear o m;have g:G=⟨#[45,105,110,102]⟩/\H=0:=by
     have:=j.out;rw[show z0i 1 _ _=.low from by rw[times1];cases v<;>first|rfl|exact absurd rfl v1,x4k] at this
     injection this with e1 e2;exact⟨e1,e2⟩
    obtain⟨rfl,rfl⟩:=g;refine wp_loop_rounds 4 ?_;rw[rounds_succ];go_wp2_with fail;rw[rounds_succ];go_wp2_with fail;rw[rounds_succ];go_wp2;go_ret2;exact⟨rfl,d.out⟩
   rw[decide_eq_false X] at l;clear o m;cases v with
   | inf=>exact absurd rfl v1
   | low=>exact absurd rfl v2
   | fin x =>
    cases u with
    | inf=>exact absurd rfl N
    | low=>exact absurd rfl X
    | fin y =>
     have za:a.size<=9223372036854775807:=by have:=z2x FA.out;rw[EA.out];show (txt x).size<=_;omega
     have zb:b.size<=9223372036854775807:=by have:=z2x FB.out;rw[EB.out];show (txt y).size<=_;omega
     have c3:=fun A (h:Below w.heap.size w A)=>x4y a b A za zb (HT.out.below h nlr);have e3:x0e a b=(G,H):=by
      rw[j.out,times1,EA.out,EB.out];show x0e (txt x) (txt y)=_;unfold x0e;rw[z2i FA.out,z2i FB.out];rfl
     rw[e3] at c3;have C3:=qh c3;clear c3 e3 za zb;refine wp_loop_rounds 4 ?_;rw[rounds_succ];go_wp2_with fail;rw[rounds_succ];go_wp2_with fail;rw[rounds_succ];go_wp2_with fail;rw[rounds_succ];go_wp2_with fail
     go_wp2_with fail
     refine nxb (C3.out _ d.out) d fun w4 R=>?_;go_wp2;go_ret2;exact⟨rfl,R.out⟩
theorem v4v (a b:ByteArray) (w:World) (O:a.size<=9223372036854775807) (hb:b.size<=9223372036854775807) (F:Tab w):Calls prog 44 #[.int .i64 2,.string a,.string b] w (PairEnd (z0n 2 a b) w):=by
 have c1:=fun z (h:Below w.heap.size w z)=>z5h a z O (F.below h nlr);have c2:=fun z (h:Below w.heap.size w z)=>z5h b z hb (F.below h nlr);cases s:z0p 2 a with
 | false =>
  rw[y0a s];rw[s] at c1;clear s c2 O hb F;have c0:=of_2 w;unfold OfEnd at c0;unfold ring2 at *;have N:=qh c0;clear c0;have K:=qh c1;clear c1
  go_enter func44,ntmps44
  go_wp2_with fail
  refine N.out.mono ?_;rintro e w1 ⟨rfl,hb⟩;have c:=qh (hb.alloc hb.size (.cells ring2 123));clear hb
  go_wp2_with fail
  refine nxb (K.out _ c.out) c fun w2 i=>?_;go_wp2;go_ret2;exact⟨rfl,i.out⟩
 | true =>
  cases G:z0p 2 b with
  | false =>
   rw[y4k G];rw[s] at c1;rw[G] at c2;clear s G O hb F;have c0:=of_2 w;unfold OfEnd at c0;unfold ring2 at *;have N:=qh c0;clear c0;have K:=qh c1;clear c1;have Q:=qh c2;clear c2
   go_enter func44,ntmps44
   go_wp2_with fail
   refine N.out.mono ?_;rintro e w1 ⟨rfl,hb⟩;have c:=qh (hb.alloc hb.size (.cells ring2 123));clear hb
   go_wp2_with fail
   refine(K.out _ c.out).mono ?_;rintro e w2 ⟨rfl,hb⟩;have p:=qh (hb);have i:=qh (z0a c.out hb);clear hb;obtain⟨q0,q1,q2,q3,q4,q5,q6,q7⟩:=z3j p.out
   go_wp2_with fail
   refine nxb (Q.out _ i.out) i fun w3 d=>?_;go_wp2;go_ret2;exact⟨rfl,d.out⟩
  | true =>
   rw[s] at c1;rw[G] at c2;obtain⟨v,pv,rv,ov,W,k⟩:=z3f s;obtain⟨u,pu,ru,ou,U,L⟩:=z3f G;clear s G;have hr:z0n 2 a b=limV (z0i 2 v u):=by unfold z0n;rw[pv,pu]
   have R:=index3b0;have X:=index3b1;have x2:=index3b2;have A:=x5r k;have m:=x7h k;have H:=y5q k;have o:=x5r L;have l:=x7h L;have B:=y5q L;rw[<- W] at A m H;rw[<- U] at o l B;have c0:=of_2 w;unfold OfEnd at c0;unfold ring2 at *;have N:=qh c0;clear c0;have K:=qh c1;clear c1;have Q:=qh c2;clear c2;rw[hr];obtain⟨r,D⟩:=exq (limV (z0i 2 v u));rw[<- D];obtain⟨I,J⟩:=r;have j:=qh D;clear D;have HX:=qh (And.intro R (And.intro X x2));clear R X x2;have Y:=qh (And.intro A (And.intro m H));clear A m H;have S:=qh (And.intro o (And.intro l B));clear o l B;have EA:=qh W;have EB:=qh U;have FA:=qh k;have FB:=qh L;have OV:=qh ov;have OU:=qh ou;clear hr pv rv ov W k pu ru ou U L O hb;have HT:=qh F;clear F
   go_enter func44,ntmps44
   go_wp2_with fail
   refine N.out.mono ?_;rintro e w1 ⟨rfl,hb⟩;have c:=qh (hb.alloc hb.size (.cells ring2 123));clear hb
   go_wp2_with fail
   refine(K.out _ c.out).mono ?_;rintro e w2 ⟨rfl,hb⟩;have p:=qh (hb);have i:=qh (z0a c.out hb);clear hb;obtain⟨q0,q1,q2,q3,q4,q5,q6,q7⟩:=z3j p.out
   go_wp2_with fail
   refine(Q.out _ i.out).mono ?_;rintro e w3 ⟨rfl,hb⟩;clear q0 q1 q2 q3 q4 q5 q6 q7;have a1:=qh (z0a p.out hb);have d:=qh (z0a i.out hb);clear hb;obtain⟨q0,q1,q2,q3,q4,q5,q6,q7⟩:=z3j a1.out
   go_wp2_with fail
   obtain⟨R,X,x2⟩:=HX.out;obtain⟨A,m,H⟩:=Y.out;obtain⟨o,l,B⟩:=S.out;have C:v≠.low:=z0q OV.out (by decide);have E:u≠.low:=z0q OU.out (by decide);rw[decide_eq_false C] at m;rw[decide_eq_false E] at l;by_cases v1:v=.fin 0
   ·subst v1;simp only[decide_true] at H;clear A m o l B;have g:I=⟨#[48]⟩/\J=0:=by
     have:=j.out;rw[show z0i 2 _ _=.fin 0 from by rw[times23 (by decide) C E,z2c],z9w] at this;injection this with e1 e2;exact⟨e1,e2⟩
    obtain⟨rfl,rfl⟩:=g;refine wp_loop_rounds 4 ?_;rw[rounds_succ];go_wp2;go_ret2;exact⟨rfl,d.out⟩
   rw[decide_eq_false v1] at H;by_cases P:u=.fin 0
   ·subst P;simp only[decide_true] at B;clear A m o l;have g:I=⟨#[48]⟩/\J=0:=by
     have:=j.out;rw[show z0i 2 _ _=.fin 0 from by rw[times23 (by decide) C E,z1y],z9w] at this;injection this with e1 e2;exact⟨e1,e2⟩
    obtain⟨rfl,rfl⟩:=g;refine wp_loop_rounds 4 ?_;rw[rounds_succ];go_wp2;go_ret2;exact⟨rfl,d.out⟩
   rw[decide_eq_false P] at B;by_cases v2:v=.inf
   ·subst v2;simp only[decide_true] at A;clear m o l;have g:I=⟨#[105,110,102]⟩/\J=0:=by
     have:=j.out;rw[show z0i 2 _ _=.inf from by rw[times23 (by decide) C E];unfold mulV;rw[if_neg (fun e=>e.elim v1 P)],z8e] at this;injection this with e1 e2;exact⟨e1,e2⟩
    obtain⟨rfl,rfl⟩:=g;refine wp_loop_rounds 4 ?_;rw[rounds_succ];go_wp2_with fail;rw[rounds_succ];go_wp2;go_ret2;exact⟨rfl,d.out⟩
   rw[decide_eq_false v2] at A;by_cases Z:u=.inf
   ·subst Z;simp only[decide_true] at o;clear m l;have g:I=⟨#[105,110,102]⟩/\J=0:=by
     have:=j.out;rw[show z0i 2 _ _=.inf from by rw[times23 (by decide) C E];unfold mulV;rw[if_neg (fun e=>e.elim v1 P)];cases v<;>rfl,z8e] at this
     injection this with e1 e2;exact⟨e1,e2⟩
    obtain⟨rfl,rfl⟩:=g;refine wp_loop_rounds 4 ?_;rw[rounds_succ];go_wp2_with fail;rw[rounds_succ];go_wp2;go_ret2;exact⟨rfl,d.out⟩
   rw[decide_eq_false Z] at o;cases v with
   | inf=>exact absurd rfl v2
   | low=>exact absurd rfl C
   | fin x =>
    cases u with
    | inf=>exact absurd rfl Z
    | low=>exact absurd rfl E
    | fin y =>
     have za:a.size<=9223372036854775807:=by have:=z2x FA.out;rw[EA.out];show (txt x).size<=_;omega
     have zb:b.size<=9223372036854775807:=by have:=z2x FB.out;rw[EB.out];show (txt y).size<=_;omega
     have c3:=fun z (h:Below w.heap.size w z)=>x5b a b z za zb (HT.out.below h nlr);have e3:y8h a b=(I,J):=by
      rw[j.out,times23 (by decide) C E,z1f,EA.out,EB.out];show y8h (txt x) (txt y)=_;unfold y8h;rw[z2i FA.out,z2i FB.out];rfl
     rw[e3] at c3;have C3:=qh c3;clear c3 e3 za zb;refine wp_loop_rounds 4 ?_;rw[rounds_succ];go_wp2_with fail;rw[rounds_succ];go_wp2_with fail;rw[rounds_succ];go_wp2_with fail;rw[rounds_succ];go_wp2_with fail
     go_wp2_with fail
     refine nxb (C3.out _ d.out) d fun w4 T=>?_;go_wp2;go_ret2;exact⟨rfl,T.out⟩
theorem v3x (a b:ByteArray) (w:World) (O:a.size<=9223372036854775807) (hb:b.size<=9223372036854775807) (F:Tab w):Calls prog 44 #[.int .i64 3,.string a,.string b] w (PairEnd (z0n 3 a b) w):=by
 have c1:=fun z (h:Below w.heap.size w z)=>z5g a z O (F.below h nlr);have c2:=fun z (h:Below w.heap.size w z)=>z5g b z hb (F.below h nlr);cases s:z0p 3 a with
 | false =>
  rw[y0a s];rw[s] at c1;clear s c2 O hb F;have c0:=of_3 w;unfold OfEnd at c0;unfold ring3 at *;have N:=qh c0;clear c0;have K:=qh c1;clear c1
  go_enter func44,ntmps44
  go_wp2_with fail
  refine N.out.mono ?_;rintro e w1 ⟨rfl,hb⟩;have c:=qh (hb.alloc hb.size (.cells ring3 123));clear hb
  go_wp2_with fail
  refine nxb (K.out _ c.out) c fun w2 i=>?_;go_wp2;go_ret2;exact⟨rfl,i.out⟩
 | true =>
  cases G:z0p 3 b with
  | false =>
   rw[y4k G];rw[s] at c1;rw[G] at c2;clear s G O hb F;have c0:=of_3 w;unfold OfEnd at c0;unfold ring3 at *;have N:=qh c0;clear c0;have K:=qh c1;clear c1;have Q:=qh c2;clear c2
   go_enter func44,ntmps44
   go_wp2_with fail
   refine N.out.mono ?_;rintro e w1 ⟨rfl,hb⟩;have c:=qh (hb.alloc hb.size (.cells ring3 123));clear hb
   go_wp2_with fail
   refine(K.out _ c.out).mono ?_;rintro e w2 ⟨rfl,hb⟩;have p:=qh (hb);have i:=qh (z0a c.out hb);clear hb;obtain⟨q0,q1,q2,q3,q4,q5,q6,q7⟩:=z3h p.out
   go_wp2_with fail
   refine nxb (Q.out _ i.out) i fun w3 d=>?_;go_wp2;go_ret2;exact⟨rfl,d.out⟩
  | true =>
   rw[s] at c1;rw[G] at c2;obtain⟨v,pv,rv,ov,W,k⟩:=z3f s;obtain⟨u,pu,ru,ou,U,L⟩:=z3f G;clear s G;have hr:z0n 3 a b=limV (z0i 3 v u):=by unfold z0n;rw[pv,pu]
   have R:=index3b0;have X:=index3b1;have x2:=index3b2;have A:=x5r k;have m:=x7h k;have H:=y5q k;have o:=x5r L;have l:=x7h L;have B:=y5q L;rw[<- W] at A m H;rw[<- U] at o l B;have c0:=of_3 w;unfold OfEnd at c0;unfold ring3 at *;have N:=qh c0;clear c0;have K:=qh c1;clear c1;have Q:=qh c2;clear c2;rw[hr];obtain⟨r,D⟩:=exq (limV (z0i 3 v u));rw[<- D];obtain⟨I,J⟩:=r;have j:=qh D;clear D;have HX:=qh (And.intro R (And.intro X x2));clear R X x2;have Y:=qh (And.intro A (And.intro m H));clear A m H;have S:=qh (And.intro o (And.intro l B));clear o l B;have EA:=qh W;have EB:=qh U;have FA:=qh k;have FB:=qh L;have OV:=qh ov;have OU:=qh ou;clear hr pv rv ov W k pu ru ou U L O hb;have HT:=qh F;clear F
   go_enter func44,ntmps44
   go_wp2_with fail
   refine N.out.mono ?_;rintro e w1 ⟨rfl,hb⟩;have c:=qh (hb.alloc hb.size (.cells ring3 123));clear hb
   go_wp2_with fail
   refine(K.out _ c.out).mono ?_;rintro e w2 ⟨rfl,hb⟩;have p:=qh (hb);have i:=qh (z0a c.out hb);clear hb;obtain⟨q0,q1,q2,q3,q4,q5,q6,q7⟩:=z3h p.out
   go_wp2_with fail
   refine(Q.out _ i.out).mono ?_;rintro e w3 ⟨rfl,hb⟩;clear q0 q1 q2 q3 q4 q5 q6 q7;have a1:=qh (z0a p.out hb);have d:=qh (z0a i.out hb);clear hb;obtain⟨q0,q1,q2,q3,q4,q5,q6,q7⟩:=z3h a1.out
   go_wp2_with fail
   obtain⟨R,X,x2⟩:=HX.out;obtain⟨A,m,H⟩:=Y.out;obtain⟨o,l,B⟩:=S.out;have C:v≠.low:=z0q OV.out (by decide);have E:u≠.low:=z0q OU.out (by decide);rw[decide_eq_false C] at m;rw[decide_eq_false E] at l;by_cases v1:v=.fin 0
   ·subst v1;simp only[decide_true] at H;clear A m o l B;have g:I=⟨#[48]⟩/\J=0:=by
     have:=j.out;rw[show z0i 3 _ _=.fin 0 from by rw[times23 (by decide) C E,z2c],z9w] at this;injection this with e1 e2;exact⟨e1,e2⟩
    obtain⟨rfl,rfl⟩:=g;refine wp_loop_rounds 4 ?_;rw[rounds_succ];go_wp2;go_ret2;exact⟨rfl,d.out⟩
   rw[decide_eq_false v1] at H;by_cases P:u=.fin 0
   ·subst P;simp only[decide_true] at B;clear A m o l;have g:I=⟨#[48]⟩/\J=0:=by
     have:=j.out;rw[show z0i 3 _ _=.fin 0 from by rw[times23 (by decide) C E,z1y],z9w] at this;injection this with e1 e2;exact⟨e1,e2⟩
    obtain⟨rfl,rfl⟩:=g;refine wp_loop_rounds 4 ?_;rw[rounds_succ];go_wp2;go_ret2;exact⟨rfl,d.out⟩
   rw[decide_eq_false P] at B;by_cases v2:v=.inf
   ·subst v2;simp only[decide_true] at A;clear m o l;have g:I=⟨#[105,110,102]⟩/\J=0:=by
     have:=j.out;rw[show z0i 3 _ _=.inf from by rw[times23 (by decide) C E];unfold mulV;rw[if_neg (fun e=>e.elim v1 P)],z8e] at this;injection this with e1 e2;exact⟨e1,e2⟩
    obtain⟨rfl,rfl⟩:=g;refine wp_loop_rounds 4 ?_;rw[rounds_succ];go_wp2_with fail;rw[rounds_succ];go_wp2;go_ret2;exact⟨rfl,d.out⟩
   rw[decide_eq_false v2] at A;by_cases Z:u=.inf
   ·subst Z;simp only[decide_true] at o;clear m l;have g:I=⟨#[105,110,102]⟩/\J=0:=by
     have:=j.out;rw[show z0i 3 _ _=.inf from by rw[times23 (by decide) C E];unfold mulV;rw[if_neg (fun e=>e.elim v1 P)];cases v<;>rfl,z8e] at this
     injection this with e1 e2;exact⟨e1,e2⟩
    obtain⟨rfl,rfl⟩:=g;refine wp_loop_rounds 4 ?_;rw[rounds_succ];go_wp2_with fail;rw[rounds_succ];go_wp2;go_ret2;exact⟨rfl,d.out⟩
   rw[decide_eq_false Z] at o;cases v with
   | inf=>exact absurd rfl v2
   | low=>exact absurd rfl C
   | fin x =>
    cases u with
    | inf=>exact absurd rfl Z
    | low=>exact absurd rfl E
    | fin y =>
     have za:a.size<=9223372036854775807:=by have:=z2x FA.out;rw[EA.out];show (txt x).size<=_;omega
     have zb:b.size<=9223372036854775807:=by have:=z2x FB.out;rw[EB.out];show (txt y).size<=_;omega
     have c3:=fun z (h:Below w.heap.size w z)=>x5b a b z za zb (HT.out.below h nlr);have e3:y8h a b=(I,J):=by
      rw[j.out,times23 (by decide) C E,z1f,EA.out,EB.out];show y8h (txt x) (txt y)=_;unfold y8h;rw[z2i FA.out,z2i FB.out];rfl
     rw[e3] at c3;have C3:=qh c3;clear c3 e3 za zb;refine wp_loop_rounds 4 ?_;rw[rounds_succ];go_wp2_with fail;rw[rounds_succ];go_wp2_with fail;rw[rounds_succ];go_wp2_with fail;rw[rounds_succ];go_wp2_with fail
     go_wp2_with fail
     refine nxb (C3.out _ d.out) d fun w4 T=>?_;go_wp2;go_ret2;exact⟨rfl,T.out⟩
theorem v1b (k:Int) (a b:ByteArray) (w:World) (d:k<1\/3<k):Calls prog 44 #[.int .i64 k,.string a,.string b] w (PairEnd (z0n k a b) w):=by
 rw[y0a (y0h d a)];have c0:=x2b k w d;unfold OfEnd at c0;unfold ring0 at *;have g:=qh c0;clear c0
 go_enter func44,ntmps44
 go_wp2_with fail
 refine g.out.mono ?_;rintro e h ⟨rfl,hb⟩;have c:=qh (hb.alloc hb.size (.cells ring0 123));clear hb;go_wp2;go_ret2;exact⟨rfl,c.out⟩
theorem z6w (k:Int) (a b:ByteArray) (w:World) (d:a.size<=9223372036854775807) (hb:b.size<=9223372036854775807) (c:Tab w):Calls prog 44 #[.int .i64 k,.string a,.string b] w (PairEnd (z0n k a b) w):=by
 rcases z2w k with rfl|rfl|rfl|g
 ·exact v7b a b w d hb c
 ·exact v4v a b w d hb c
 ·exact v3x a b w d hb c
 exact v1b k a b w g
end
section
open Go.RowKit
end
section
open Go.RowKit
theorem y0b (v:V):(limV v).1.size<=802:=by
 cases v with
 | inf=>show 3<=802;omega
 | low=>show 4<=802;omega
 | fin q=>exact y9k q
theorem y3r:argS.1.size<=802:=by show 0<=802;omega
theorem x6r (k:Int) (a b:ByteArray):(z1i k a b).1.size<=802:=by unfold z1i;split<;>first|exact y0b _|exact y3r
theorem x2d (k:Int) (a b:ByteArray):(z0n k a b).1.size<=802:=by unfold z0n;split<;>first|exact y0b _|exact y3r
theorem x5v (k:Int) (a:ByteArray):(z5q k a).1.size<=802:=by unfold z5q;split<;>first|exact y0b _|exact y3r
theorem z8s (k:Int):(z1j k).size<=100000:=by
 rcases z2w k with rfl|rfl|rfl|c
 ·rw[v2e];decide
 ·rw[x7p];decide
 ·rw[x8a];decide
 rw[x4f c];decide
theorem v0g (k:Int):(oneF k).size<=100000:=by
 rcases z2w k with rfl|rfl|rfl|c
 ·rw[v8t];decide
 ·rw[v8s];decide
 ·rw[v8n];decide
 rw[x9z c];decide
end
section
open Go.RowKit
end
section
open Go.RowKit
def dval:List Nat->Nat | []=>0|x::xs=>x+10*dval xs
def Dig (xs:List Nat):Prop:=∀ i,nth xs i<10
theorem v7d {xs:List Nat} (h:Dig xs) (k:Nat):Dig (xs.take k):=fun i=>by
 by_cases c:i<k
 ·rw[z8u _ _ _ c];exact h i
 rw[z1q _ _ (by rw[List.length_take];omega)];omega
theorem x2q (xs c:List Nat):dval (xs++c)=dval xs+10 ^ xs.length*dval c:=by
 induction xs with
 | nil=>simp[dval]
 | cons x xs ih=>simp only[List.cons_append,dval,ih,List.length_cons,Nat.pow_succ];rw[Nat.mul_add,Nat.mul_comm (10 ^ xs.length) 10,Nat.mul_assoc];omega
theorem v0y (xs:List Nat) (x:Nat):dval (xs++[x])=dval xs+10 ^ xs.length*x:=by rw[x2q];simp[dval]
theorem z8y (xs:List Nat) (k:Nat):dval (xs.take (k+1))=dval (xs.take k)+10 ^ k*nth xs k:=by
 by_cases h:k<xs.length
 ·rw[y5v xs k h,v0y,List.length_take,Nat.min_eq_left (by omega)]
 rw[List.take_of_length_le (by omega),List.take_of_length_le (by omega),z1q xs k (by omega)];simp
theorem v1r {xs:List Nat} (h:∀ i,nth xs i=0):dval xs=0:=by
 induction xs with
 | nil=>rfl
 | cons x xs ih=>simp only[dval];rw[ih (fun i=>h (i+1)),show x=0 from h 0]
theorem x7n {xs:List Nat} (h:Dig xs):dval xs<10 ^ xs.length:=by
 induction xs with
 | nil=>simp[dval]
 | cons x xs ih =>
  have c:=h 0;rw[z6t] at c;have:=ih (fun i=>h (i+1));simp only[dval,List.length_cons,Nat.pow_succ];omega
def byteOf (d:Nat):UInt8:=UInt8.ofNat (48+d)
theorem byteOf_toNat {d:Nat} (h:d<10):(byteOf d).toNat=48+d:=u8n (by omega)
def bytesOf (xs:List Nat):List UInt8:=xs.reverse.map byteOf
end
section
open Go.RowKit
end
section
open Go.RowKit
end
section
open Go.RowKit
end
section
open Go.RowKit
theorem u0n {L:List Nat} (h:Dig L) (j v:Nat) (c:v<10):Dig (L.set j v):=fun i=>by
 by_cases d:j<L.length
 ·rw[y1v L j v i d];split
  ·exact c
  exact h i
 rw[List.set_eq_of_length_le (by omega)];exact h i
theorem v6c (L:List Nat):∀ (j v:Nat),j<L.length->dval (L.set j v)+10 ^ j*nth L j=dval L+10 ^ j*v:=by
 induction L with
 | nil=>intro j v h;simp at h
 | cons x L ih =>
  intro j v h;cases j with
  | zero=>simp only[List.set_cons_zero,dval,z6t,Nat.pow_zero];omega
  | succ j =>
   have:=ih j v (by simpa using h);simp only[List.set_cons_succ,dval,z5d,Nat.pow_succ];have e:10*(dval (L.set j v)+10 ^ j*nth L j)=10*(dval L+10 ^ j*v):=by rw[this]
   rw[Nat.mul_add,Nat.mul_add,<- Nat.mul_assoc,<- Nat.mul_assoc,Nat.mul_comm 10 (10 ^ j)] at e;omega
theorem x9c (k i:Nat):nth (List.replicate k 0) i=0:=by unfold nth;simp[List.getD_eq_getElem?_getD,List.getElem?_replicate];split<;>rfl
structure MulIR (xs ys L:List Nat) (i k c:Nat):Prop where
 dig:Dig L
 carry:c<10
 len:L.length=xs.length+ys.length+1
 val:dval L+10 ^ (i+k)*c=dval (xs.take i)*dval ys+10 ^ i*(nth xs i*dval (ys.take k))
structure MulOR (xs ys L:List Nat) (i:Nat):Prop where
 dig:Dig L
 len:L.length=xs.length+ys.length+1
 val:dval L=dval (xs.take i)*dval ys
theorem MulOR.start (xs c:List Nat):MulOR xs c (List.replicate (xs.length+c.length+1) 0) 0 :=
 ⟨fun i=>by rw[x9c];omega,by simp,by rw[v1r (x9c _)];simp[dval]⟩
theorem x1i {l c x y:Nat} (g:l<10) (d:c<10) (i:x<10) (h:y<10):l+x*y+c<100:=by
 have:x*y<=9*9:=Nat.mul_le_mul (by omega) (by omega);omega
theorem MulIR.step {xs d L:List Nat} {i k c l x y:Nat} (h:MulIR xs d L i k c) (B:Dig xs) (A:Dig d) (hi:i<xs.length) (E:k<d.length+1) (u:l=nth L (i+k)) (s:x=nth xs i) (z:y=nth d k) :
  MulIR xs d (L.set (i+k) ((l+x*y+c) % 10)) i (k+1) ((l+x*y+c) / 10):=by
 have hb:=x1i (h.dig (i+k)) h.carry (B i) (A k);have o:i+k<L.length:=by rw[h.len];omega
 have m:=v6c L (i+k) ((l+x*y+c) % 10) o;have g:=h.val;have j:=z8y d k;rw[<- u,<- s,<- z] at hb;rw[<- u] at m;rw[<- z] at j;rw[<- s] at g;generalize hp:l+x*y+c=p at *;have D:10 ^ (i+k)*l+10 ^ (i+k)*(x*y)+10 ^ (i+k)*c=10 ^ (i+k)*p:=by rw[<- hp,Nat.mul_add,Nat.mul_add]
 have C:10 ^ (i+k)*p=10 ^ (i+k)*(p % 10)+10 ^ (i+k)*10*(p / 10):=by
  rw[Nat.mul_assoc,<- Nat.mul_add,Nat.mod_add_div]
 refine⟨u0n h.dig _ _ (by omega),by omega,by simp[h.len],?_⟩;rw[j,Nat.mul_add,Nat.mul_add,show i+(k+1)=i+k+1 by omega,Nat.pow_succ 10 (i+k),<- s];have e:10 ^ i*(x*(10 ^ k*y))=10 ^ (i+k)*(x*y):=by
  rw[Nat.pow_add,Nat.mul_left_comm x,Nat.mul_assoc]
 rw[e];omega
theorem MulIR.done {xs d L:List Nat} {i c:Nat} (h:MulIR xs d L i (d.length+1) c) (m:Dig xs) (k:Dig d) (hi:i<xs.length):MulOR xs d L (i+1):=by
 refine⟨h.dig,h.len,?_⟩;have g:=h.val;rw[List.take_of_length_le (by omega:d.length<=d.length+1)] at g;have e:dval (xs.take i)*dval d+10 ^ i*(nth xs i*dval d)=dval (xs.take (i+1))*dval d:=by
  rw[z8y,Nat.add_mul,Nat.mul_assoc]
 rw[e] at g;have l:dval (xs.take (i+1))<10 ^ (i+1):=by
  have:=x7n (v7d m (i+1));rw[List.length_take,Nat.min_eq_left (by omega)] at this;exact this
 have u:=x7n k;have o:dval (xs.take (i+1))*dval d<10 ^ (i+1)*10 ^ d.length:=by
  have p:dval (xs.take (i+1))*dval d<=dval (xs.take (i+1))*10 ^ d.length:=Nat.mul_le_mul_left _ (by omega);have s:dval (xs.take (i+1))*10 ^ d.length<10 ^ (i+1)*10 ^ d.length:=Nat.mul_lt_mul_of_pos_right l (Nat.pow_pos (by omega));omega
 rw[<- Nat.pow_add,show i+1+d.length=i+(d.length+1) by omega] at o
 rcases Nat.eq_zero_or_pos c with j|j
 ·subst j;rw[Nat.mul_zero,Nat.add_zero] at g;exact g
 have:10 ^ (i+(d.length+1))*1<=10 ^ (i+(d.length+1))*c:=Nat.mul_le_mul_left _ j;omega
theorem MulOR.done {xs c L:List Nat} (h:MulOR xs c L xs.length):dval L=dval xs*dval c:=by rw[h.val,List.take_length]
end
section
open Go.RowKit
structure DivI (l:List UInt8) (n:Nat) (qb:List UInt8) (rn i:Nat):Prop where
 len:qb.length=i
 dig:dgts qb=true
 lt:rn<n
 val:num qb*n+rn=num (l.take i)
theorem DivI.start (l:List UInt8) {n:Nat} (h:n≠0):DivI l n [] 0 0:=⟨rfl,rfl,by omega,by simp[num]⟩
theorem x5p {j:Nat} (h:j<10):dgt (byteOf j)=true:=by simp only[dgt,byteOf_toNat h];simp;omega
theorem DivI.step {l:List UInt8} {n:Nat} {k:List UInt8} {d i j m:Nat} {c:UInt8} (h:DivI l n k d i) (o:l.take (i+1)=l.take i++[c]) (p:m<n) (g:j<10) (s:m+j*n=10*d+(c.toNat-48)) :
  DivI l n (k++[byteOf j]) m (i+1):=by
 refine⟨by rw[List.length_append,h.len];rfl,by rw[z7h,h.dig,x5p g];rfl,p,?_⟩;rw[z5x,o,z5x,<- h.val,byteOf_toNat g,show 48+j-48=j by omega,Nat.add_mul,Nat.mul_add,Nat.mul_assoc];omega
structure Strip (l:List UInt8) (k:Nat):Prop where
 lt:k+1<=l.length
 val:num (l.drop k)=num l
theorem Strip.step {l:List UInt8} {k:Nat} (h:Strip l k) (g:k+1<l.length) (d:l[k].toNat=48):Strip l (k+1):=by
 refine⟨by omega,?_⟩;rw[<- h.val,List.drop_eq_getElem_cons (i:=k) (by omega)];generalize l.drop (k+1)=x;show num x=List.foldl (fun n c=>10*n+(c.toNat-48)) (10*0+(l[k].toNat-48)) x;rw[d];rfl
end
section
open Go.RowKit
end
section
open Go.RowKit
end
section
open Go.RowKit
end
section
open Go.RowKit
end
section
open Go.RowKit
end
section
open Go.RowKit
end
section
open Go.RowKit
end
section
open Go.RowKit
end
end Go.Proofs.YteappjogmnogcaaGreatDoor
