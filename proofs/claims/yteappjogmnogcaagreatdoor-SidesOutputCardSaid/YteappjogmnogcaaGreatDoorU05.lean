/- Parts of a proof: MS2 SemF SemH SemG MX MR1 MR2 MR3 MR4. -/
import Derived.Test.YteappjogmnogcaaGreatDoorU04
import Derived.Test.YteappjogmnogcaaGreatDoorU00
import Derived.LoopN
import Derived.Test.YteappjogmnogcaaGreatDoorU02
import Derived.Test.YteappjogmnogcaaGreatDoorU03
import Derived.Deep.QuietTactic
import Derived.BigQuiet
import Derived.Laws.Concat
namespace Go.Proofs.YteappjogmnogcaaGreatDoor
set_option maxRecDepth 100000
set_option linter.unusedSimpArgs false
set_option linter.unusedVariables false
set_option linter.unusedSectionVars false
set_option maxHeartbeats 16000000
open Go Tryz
section
open Go.RowKit
theorem z5v:txt 0=⟨#[48]⟩:=((z2p y0c).1).symm
theorem y2k:fitQ 0:=(z2p y0c).2
theorem y8a:prs ⟨#[49]⟩=some 1:=by
 have:txt 1=⟨#[49]⟩:=by unfold txt txtL;rw[show negQ 1=false from rfl,show (1:Rat).num.natAbs=1 from rfl,show (1:Rat).den=1 from rfl,z5k];rfl
 rw[<- this];exact z2h (by unfold fitQ;rw[show (1:Rat).num.natAbs=1 from rfl,show (1:Rat).den=1 from rfl,z5k];decide)
theorem y3f:txt 1=⟨#[49]⟩:=((z2p y8a).1).symm
theorem x1q:fitQ 1:=(z2p y8a).2
def natB (a:ByteArray):Bool:=match prs a with|some q=>decide (0<=q)|none=>false
def posB (a:ByteArray):Bool:=match prs a with|some q=>decide (0<q)|none=>false
theorem y6f {a:ByteArray} {q:Rat} (h:prs a=some q):y3h a ⟨#[48]⟩=cmpQ q 0:=by unfold y3h;rw[h,y0c]
theorem x8d (a:ByteArray):z0t 1 a=(prs a).isSome:=by
 unfold z0t rdV;by_cases d:a=infS
 ·rw[if_pos d,d,y7g];rfl
 rw[if_neg d];by_cases c:a=lowS
 ·rw[if_pos c,c,y3x];rfl
 rw[if_neg c];cases prs a with
 | none=>rfl
 | some q=>simp[wtV]
theorem y6d {k:Int} (g:k=2\/k=3) (a:ByteArray):z0t k a=posB a:=by
 unfold z0t rdV posB;by_cases c:a=infS
 ·rw[if_pos c,c,y7g];rfl
 rw[if_neg c];by_cases d:a=lowS
 ·rw[if_pos d,d,y3x];rfl
 rw[if_neg d];cases prs a with
 | none=>rfl
 | some q =>
  show decide (wtV k (.fin q))=decide (0<q);rw[decide_eq_decide]
  constructor
  ·intro h;rcases h with h|h
   ·omega
   exact h.2
  intro h;exact .inr ⟨g,h⟩
theorem y0v {k:Int} (c:k=1\/k=2\/k=3):z0p k infS=true:=by
 have:vprs k infS=some .inf:=z3b.2 ⟨by simp[rdV],by unfold okV;omega⟩;unfold z0p;rw[this];rfl
theorem x1x:z0p 1 lowS=true:=by
 have:vprs 1 lowS=some .low:=z3b.2 ⟨by simp[rdV,show lowS≠infS by decide],rfl⟩;unfold z0p;rw[this];rfl
theorem v3d {a:ByteArray} (d:a≠infS) (c:a≠lowS):z0p 1 a=(prs a).isSome:=by
 unfold z0p vprs rdV;rw[if_neg d,if_neg c];cases prs a with
 | none=>rfl
 | some q=>simp[okV]
theorem y9q {k:Int} (g:k=2\/k=3) {a:ByteArray} (d:a≠infS):z0p k a=natB a:=by
 unfold z0p vprs rdV natB;rw[if_neg d];by_cases c:a=lowS
 ·rw[if_pos c,c,y3x];have:decide (okV k .low)=false:=by rw[decide_eq_false_iff_not];intro h;change k=1 at h;omega
  simp[Option.filter,this]
 rw[if_neg c];cases prs a with
 | none=>rfl
 | some q =>
  have:decide (okV k (.fin q))=decide (0<=q):=by
   rw[decide_eq_decide]
   constructor
   ·intro h;rcases h with h|h
    ·omega
    exact h.2
   intro h;exact .inr ⟨g,h⟩
  simp only[Option.map_some,Option.filter,this];cases decide (0<=q)<;>rfl
def BoolE (b:Bool) (w:World) (e:Ending) (w':World):Prop:=e=.returned (.bool b)/\Below w.heap.size w w'
theorem y1v (a:ByteArray) (w:World) (c:a.size<=9223372036854775807) (d:Tab w):Calls prog 160 #[.string a] w (BoolE (prs a).isSome w):=z8f a w c d
theorem y2z (a:ByteArray) (w:World) (j:a.size<=9223372036854775807) (i:Tab w):Calls prog 164 #[.string a] w (BoolE (natB a) w):=by
 have c1:=z8f a w j i;have c2:=fun m (h:Below w.heap.size w m)=>y7h a ⟨#[48]⟩ m j (by decide) (i.below h nlr);cases d:prs a with
 | none =>
  have g:natB a=false:=by unfold natB;rw[d]
  rw[g];rw[d] at c1;simp only[Option.isSome] at c1;have k:=qh c1;clear c1 c2 d g j i
  go_enter func164,ntmps164
  go_wp2_with fail
  refine nxa k.out fun s c=>?_;go_wp2;go_ret;exact⟨rfl,c.out⟩
 | some q =>
  have g:natB a=decide (0<=q):=by unfold natB;rw[d]
  rw[y6f d] at c2;rw[g];rw[d] at c1;simp only[Option.isSome] at c1;have k:=qh c1;clear c1;have o:(decide (0<=q)=decide (0<=cmpQ q 0)):=by
   rcases z1j q 0 with ⟨h,e⟩|⟨h,e⟩|⟨h,e⟩<;>rw[e]
   ·rw[decide_eq_decide];simp;exact Rat.not_le.2 h
   ·subst h;rfl
   rw[decide_eq_decide];simp;exact Rat.le_of_lt h
  rw[o];have u:cmpQ q 0=-1\/cmpQ q 0=0\/cmpQ q 0=1:=by rcases z1j q 0 with ⟨h,e⟩|⟨h,e⟩|⟨h,e⟩<;>simp[e]
  generalize cmpQ q 0=z at *;have p:=qh c2;clear c2 d g j i o
  rcases u with rfl|rfl|rfl
  all_goals
   go_enter func164,ntmps164
   go_wp2_with fail
   refine nxa k.out fun s c=>?_
   go_wp2_with fail
   refine nxb (p.out _ c.out) c fun A l=>?_;go_wp2;go_ret;exact⟨rfl,l.out⟩
theorem y2c (a:ByteArray) (w:World) (j:a.size<=9223372036854775807) (i:Tab w):Calls prog 165 #[.string a] w (BoolE (posB a) w):=by
 have c1:=z8f a w j i;have c2:=fun m (h:Below w.heap.size w m)=>y7h a ⟨#[48]⟩ m j (by decide) (i.below h nlr);cases d:prs a with
 | none =>
  have g:posB a=false:=by unfold posB;rw[d]
  rw[g];rw[d] at c1;simp only[Option.isSome] at c1;have k:=qh c1;clear c1 c2 d g j i
  go_enter func165,ntmps165
  go_wp2_with fail
  refine nxa k.out fun s c=>?_;go_wp2;go_ret;exact⟨rfl,c.out⟩
 | some q =>
  have g:posB a=decide (0<q):=by unfold posB;rw[d]
  rw[y6f d] at c2;rw[g];rw[d] at c1;simp only[Option.isSome] at c1;have k:=qh c1;clear c1;have o:(decide (0<q)=decide (0<cmpQ q 0)):=by
   rcases z1j q 0 with ⟨h,e⟩|⟨h,e⟩|⟨h,e⟩<;>rw[e]
   ·rw[decide_eq_decide];simp;exact Rat.not_lt.2 (Rat.le_of_lt h)
   ·subst h;rfl
   rw[decide_eq_decide];simp;exact h
  rw[o];have u:cmpQ q 0=-1\/cmpQ q 0=0\/cmpQ q 0=1:=by rcases z1j q 0 with ⟨h,e⟩|⟨h,e⟩|⟨h,e⟩<;>simp[e]
  generalize cmpQ q 0=z at *;have p:=qh c2;clear c2 d g j i o
  rcases u with rfl|rfl|rfl
  all_goals
   go_enter func165,ntmps165
   go_wp2_with fail
   refine nxa k.out fun s c=>?_
   go_wp2_with fail
   refine nxb (p.out _ c.out) c fun A l=>?_;go_wp2;go_ret;exact⟨rfl,l.out⟩
theorem z5g (a:ByteArray) (w:World) (p:a.size<=9223372036854775807) (o:Tab w):Calls prog 98 #[.agg ring1,.string a] w (BoolE (z0p 1 a) w):=by
 have j:Below w.heap.size w (w.alloc (.cells ring1 123)):=blr.alloc nlr _;have c1:=fun m (h:Below w.heap.size w m)=>y1v a m p (o.below h nlr);have u:=qh c1;clear c1 p o;have c:=qh j;clear j;unfold ring1 at c ⊢;by_cases d:a=infS
 ·have z:(a.toList==[105,110,102])=true:=by rw[d,z2u];rfl
  have i:z0p 1 a=true:=by rw[d];exact y0v (by omega)
  rw[i];clear i d
  go_enter func98,ntmps98
  go_wp2;go_ret;exact⟨rfl,c.out⟩
 have z:(a.toList==[105,110,102])=false:=z4j (l:=[105,110,102]) d;by_cases g:a=lowS
 ·have s:(a.toList==[45,105,110,102])=true:=by rw[g,z5n];rfl
  have i:z0p 1 a=true:=by rw[g];exact x1x
  rw[i];clear i d g
  go_enter func98,ntmps98
  go_wp2;go_ret;exact⟨rfl,c.out⟩
 have s:(a.toList==[45,105,110,102])=false:=z4j (l:=[45,105,110,102]) g;rw[v3d d g];clear d g
 go_enter func98,ntmps98
 go_wp2_with fail
 refine nxb (u.out _ c.out) c fun A k=>?_;go_wp2;go_ret;exact⟨rfl,k.out⟩
theorem z5f (a:ByteArray) (w:World) (o:a.size<=9223372036854775807) (m:Tab w):Calls prog 98 #[.agg ring2,.string a] w (BoolE (z0p 2 a) w):=by
 have g:Below w.heap.size w (w.alloc (.cells ring2 123)):=blr.alloc nlr _;have c1:=fun k (h:Below w.heap.size w k)=>y2z a k o (m.below h nlr);have p:=qh c1;clear c1 o m;have c:=qh g;clear g;unfold ring2 at c ⊢;by_cases d:a=infS
 ·have s:(a.toList==[105,110,102])=true:=by rw[d,z2u];rfl
  have j:z0p 2 a=true:=by rw[d];exact y0v (by omega)
  rw[j];clear j d
  go_enter func98,ntmps98
  go_wp2;go_ret;exact⟨rfl,c.out⟩
 have s:(a.toList==[105,110,102])=false:=z4j (l:=[105,110,102]) d;rw[y9q (by omega) d];clear d;cases z:(a.toList==[45,105,110,102])
 all_goals
  go_enter func98,ntmps98
  go_wp2_with fail
  refine nxb (p.out _ c.out) c fun u i=>?_;go_wp2;go_ret;exact⟨rfl,i.out⟩
theorem z5e (a:ByteArray) (w:World) (o:a.size<=9223372036854775807) (m:Tab w):Calls prog 98 #[.agg ring3,.string a] w (BoolE (z0p 3 a) w):=by
 have g:Below w.heap.size w (w.alloc (.cells ring3 123)):=blr.alloc nlr _;have c1:=fun k (h:Below w.heap.size w k)=>y2z a k o (m.below h nlr);have p:=qh c1;clear c1 o m;have c:=qh g;clear g;unfold ring3 at c ⊢;by_cases d:a=infS
 ·have s:(a.toList==[105,110,102])=true:=by rw[d,z2u];rfl
  have j:z0p 3 a=true:=by rw[d];exact y0v (by omega)
  rw[j];clear j d
  go_enter func98,ntmps98
  go_wp2;go_ret;exact⟨rfl,c.out⟩
 have s:(a.toList==[105,110,102])=false:=z4j (l:=[105,110,102]) d;rw[y9q (by omega) d];clear d;cases z:(a.toList==[45,105,110,102])
 all_goals
  go_enter func98,ntmps98
  go_wp2_with fail
  refine nxb (p.out _ c.out) c fun u i=>?_;go_wp2;go_ret;exact⟨rfl,i.out⟩
theorem cell_kept {w g:World} {c:Array Value} {t:TypeId} (h:Below (w.alloc (.cells c t)).heap.size (w.alloc (.cells c t)) g) (i:Nat):g.cell? ⟨w.heap.size,i,none⟩=c[i]?:=by
 have d:w.heap.size<(w.alloc (.cells c t)).heap.size:=by simp
 exact(h.cell (p:=⟨w.heap.size,i,none⟩) d).trans (cell_of_row _ _ i c t (0,0) (heap_alloc_last w _))
theorem x2x (v u:V) (w:World) (B:fitV v) (s:fitV u) (p:Tab w):Calls prog 157 #[.agg ring1,.string (vtxt v),.string (vtxt u)] w (PairEnd (limV (z1k 1 v u)) w):=by
 have i:Below w.heap.size w (w.alloc (.cells ring1 123)):=blr.alloc nlr _;have c1:=fun l (h:Below w.heap.size w l)=>z4r v u l B s (p.below h nlr);have A:z1k 1 v u=if 0<cmpV v u then u else v:=by unfold z1k;rfl
 rw[A];have o:limV (if 0<cmpV v u then u else v)=(if 0<cmpV v u then vtxt u else vtxt v,0):=by split<;>(rw[y2i];assumption)
 rw[o];have C:=z8q v u;generalize cmpV v u=z at *;have j:=qh c1;clear c1 p A o;have c:=qh i;clear i;unfold ring1 at c ⊢;generalize vtxt v=a at *;generalize vtxt u=b at *;clear B s
 rcases C with rfl|rfl|rfl
 ·change Calls _ _ _ _ (PairEnd (a,0) w)
  go_enter func157,ntmps157
  go_wp2_with fail
  refine(j.out _ c.out).mono ?_;rintro e k ⟨rfl,hb⟩;have d:=qh hb;have g:=qh (z0a c.out hb);clear hb;have m:=cell_kept d.out 2;go_wp2;go_ret2;exact⟨rfl,g.out⟩
 ·change Calls _ _ _ _ (PairEnd (a,0) w)
  go_enter func157,ntmps157
  go_wp2_with fail
  refine(j.out _ c.out).mono ?_;rintro e k ⟨rfl,hb⟩;have d:=qh hb;have g:=qh (z0a c.out hb);clear hb;have m:=cell_kept d.out 2;go_wp2;go_ret2;exact⟨rfl,g.out⟩
 change Calls _ _ _ _ (PairEnd (b,0) w)
 go_enter func157,ntmps157
 go_wp2_with fail
 refine(j.out _ c.out).mono ?_;rintro e k ⟨rfl,hb⟩;have d:=qh hb;have g:=qh (z0a c.out hb);clear hb;have m:=cell_kept d.out 2;go_wp2;go_ret2;exact⟨rfl,g.out⟩
theorem x2b (v u:V) (w:World) (B:fitV v) (s:fitV u) (p:Tab w):Calls prog 157 #[.agg ring3,.string (vtxt v),.string (vtxt u)] w (PairEnd (limV (z1k 3 v u)) w):=by
 have i:Below w.heap.size w (w.alloc (.cells ring3 123)):=blr.alloc nlr _;have c1:=fun l (h:Below w.heap.size w l)=>z4r v u l B s (p.below h nlr);have A:z1k 3 v u=if cmpV v u<0 then u else v:=by unfold z1k;rfl
 rw[A];have o:limV (if cmpV v u<0 then u else v)=(if cmpV v u<0 then vtxt u else vtxt v,0):=by split<;>(rw[y2i];assumption)
 rw[o];have C:=z8q v u;generalize cmpV v u=z at *;have j:=qh c1;clear c1 p A o;have c:=qh i;clear i;unfold ring3 at c ⊢;generalize vtxt v=a at *;generalize vtxt u=b at *;clear B s
 rcases C with rfl|rfl|rfl
 ·change Calls _ _ _ _ (PairEnd (b,0) w)
  go_enter func157,ntmps157
  go_wp2_with fail
  refine(j.out _ c.out).mono ?_;rintro e k ⟨rfl,hb⟩;have d:=qh hb;have g:=qh (z0a c.out hb);clear hb;have m:=cell_kept d.out 2;go_wp2;go_ret2;exact⟨rfl,g.out⟩
 ·change Calls _ _ _ _ (PairEnd (a,0) w)
  go_enter func157,ntmps157
  go_wp2_with fail
  refine(j.out _ c.out).mono ?_;rintro e k ⟨rfl,hb⟩;have d:=qh hb;have g:=qh (z0a c.out hb);clear hb;have m:=cell_kept d.out 2;go_wp2;go_ret2;exact⟨rfl,g.out⟩
 change Calls _ _ _ _ (PairEnd (a,0) w)
 go_enter func157,ntmps157
 go_wp2_with fail
 refine(j.out _ c.out).mono ?_;rintro e k ⟨rfl,hb⟩;have d:=qh hb;have g:=qh (z0a c.out hb);clear hb;have m:=cell_kept d.out 2;go_wp2;go_ret2;exact⟨rfl,g.out⟩
theorem u0a (v u:V) (w:World) (j:fitV v) (i:fitV u) (lv:v≠.low) (lu:u≠.low) (k:Tab w):Calls prog 161 #[.agg ring2,.string (vtxt v),.string (vtxt u)] w (PairEnd (limV (z1k 2 v u)) w):=by
 have d:Below w.heap.size w (w.alloc (.cells ring2 123)):=blr.alloc nlr _;rw[z5t];cases v with
 | low=>exact absurd rfl lv
 | inf =>
  have g:limV (addV .inf u)=(infS,0):=by cases u<;>rfl
  rw[g];have s:((vtxt .inf).toList==[105,110,102])=true:=by show (infS.toList==_)=_;rw[z2u];rfl
  generalize vtxt .inf=a at *;generalize vtxt u=b at *;have c:=qh d;clear d j i lv lu k g;unfold ring2 at c ⊢;unfold infS
  go_enter func161,ntmps161
  go_wp2;go_ret2;exact⟨rfl,c.out⟩
 | fin x =>
  have s:((vtxt (.fin x)).toList==[105,110,102])=false:=z8i j;cases u with
  | low=>exact absurd rfl lu
  | inf =>
   have g:limV (addV (.fin x) .inf)=(infS,0):=rfl;rw[g];have z:((vtxt .inf).toList==[105,110,102])=true:=by show (infS.toList==_)=_;rw[z2u];rfl
   generalize vtxt .inf=b at *;generalize vtxt (.fin x)=a at *;have c:=qh d;clear d j i lv lu k g;unfold ring2 at c ⊢;unfold infS
   go_enter func161,ntmps161
   go_wp2;go_ret2;exact⟨rfl,c.out⟩
  | fin y =>
   have z:((vtxt (.fin y)).toList==[105,110,102])=false:=z8i i;have l:=z2w j;have m:=z2w i;have c1:=fun p (h:Below w.heap.size w p)=>x4e (txt x) (txt y) p (by omega) (by omega) (k.below h nlr);have g:y8w (txt x) (txt y)=limV (addV (.fin x) (.fin y)):=by unfold y8w;rw[z2h j,z2h i];rfl
   rw[g] at c1;change Calls _ _ #[_,.string (txt x),.string (txt y)] _ _;change ((txt x).toList==_)=_ at s;change ((txt y).toList==_)=_ at z;generalize limV (addV (.fin x) (.fin y))=lr at *;obtain⟨ls,C⟩:=lr;generalize txt x=a at *;generalize txt y=b at *;have A:=qh c1;clear c1;have c:=qh d;clear d j i lv lu k g l m;unfold ring2 at c ⊢
   go_enter func161,ntmps161
   go_wp2_with fail
   refine nxb (A.out _ c.out) c fun B o=>?_;go_wp2;go_ret2;exact⟨rfl,o.out⟩
theorem x2g (v:V) (w:World) (k:fitV v) (h:Tab w):Calls prog 159 #[.string (vtxt v)] w (PairEnd (limV (z1x 1 v)) w):=by
 have c1:=z4r v (.fin 0) w k y2k h;have i:z1x 1 v=if 0<=cmpV v (.fin 0) then .fin 0 else .low:=rfl
 have j:limV (z1x 1 v)=(if 0<=cmpV v (.fin 0) then ⟨#[48]⟩ else lowS,0):=by
  rw[i];split
  ·exact(z8p y2k).trans (by rw[z5v])
  rfl
 rw[j];change Calls _ _ #[_,.string (txt 0)] _ _ at c1;rw[z5v] at c1;have l:=z8q v (.fin 0);generalize cmpV v (.fin 0)=z at *;have d:=qh c1;clear c1 h i j;generalize vtxt v=a at *;clear k;unfold lowS
 rcases l with rfl|rfl|rfl
 ·change Calls _ _ _ _ (PairEnd (⟨#[45,105,110,102]⟩,0) w)
  go_enter func159,ntmps159
  go_wp2_with fail
  refine nxa d.out fun g c=>?_;go_wp2;go_ret2;exact⟨rfl,c.out⟩
 ·change Calls _ _ _ _ (PairEnd (⟨#[48]⟩,0) w)
  go_enter func159,ntmps159
  go_wp2_with fail
  refine nxa d.out fun g c=>?_;go_wp2;go_ret2;exact⟨rfl,c.out⟩
 change Calls _ _ _ _ (PairEnd (⟨#[48]⟩,0) w)
 go_enter func159,ntmps159
 go_wp2_with fail
 refine nxa d.out fun g c=>?_;go_wp2;go_ret2;exact⟨rfl,c.out⟩
theorem x0h (v:V) (w:World) (k:fitV v) (h:Tab w):Calls prog 166 #[.string (vtxt v)] w (PairEnd (limV (z1x 3 v)) w):=by
 have c1:=z4r v (.fin 1) w k x1q h;have i:z1x 3 v=if cmpV v (.fin 1)<=0 then .fin 1 else .inf:=rfl
 have j:limV (z1x 3 v)=(if cmpV v (.fin 1)<=0 then ⟨#[49]⟩ else infS,0):=by
  rw[i];split
  ·exact(z8p x1q).trans (by rw[y3f])
  rfl
 rw[j];change Calls _ _ #[_,.string (txt 1)] _ _ at c1;rw[y3f] at c1;have l:=z8q v (.fin 1);generalize cmpV v (.fin 1)=z at *;have d:=qh c1;clear c1 h i j;generalize vtxt v=a at *;clear k;unfold infS
 rcases l with rfl|rfl|rfl
 ·change Calls _ _ _ _ (PairEnd (⟨#[49]⟩,0) w)
  go_enter func166,ntmps166
  go_wp2_with fail
  refine nxa d.out fun g c=>?_;go_wp2;go_ret2;exact⟨rfl,c.out⟩
 ·change Calls _ _ _ _ (PairEnd (⟨#[49]⟩,0) w)
  go_enter func166,ntmps166
  go_wp2_with fail
  refine nxa d.out fun g c=>?_;go_wp2;go_ret2;exact⟨rfl,c.out⟩
 change Calls _ _ _ _ (PairEnd (⟨#[105,110,102]⟩,0) w)
 go_enter func166,ntmps166
 go_wp2_with fail
 refine nxa d.out fun g c=>?_;go_wp2;go_ret2;exact⟨rfl,c.out⟩
theorem v5h {x:Rat} (m:fitQ x) (j:0<=x) (l:x<1):fitQ (1-x):=by
 have c:=x9y.1 m;rw[x9y,Rat.sub_def'];obtain⟨i,h⟩:=y8j (n:=(1:Rat).num*x.den-x.num*(1:Rat).den) (d:=(1:Rat).den*x.den) (Nat.mul_ne_zero (by decide) x.den_nz);have o:0<=x.num:=Rat.num_nonneg.2 j;have p:x.num<x.den:=by
  have:=(Rat.lt_iff x 1).1 l
  simpa using this
 have k:((1:Rat).num*x.den-x.num*(1:Rat).den).natAbs<=x.den:=by
  rw[Rat.one_num,Rat.one_den];omega
 have g:(1:Rat).den*x.den=x.den:=by rw[Rat.one_den,Nat.one_mul]
 exact⟨Nat.lt_of_le_of_lt (Nat.le_trans i k) c.2,Nat.lt_of_le_of_lt (Nat.le_trans h (Nat.le_of_eq g)) c.2⟩
theorem x2f (v:V) (w:World) (i:fitV v) (d:okV 2 v) (j:Tab w):Calls prog 163 #[.string (vtxt v)] w (PairEnd (limV (z1x 2 v)) w):=by
 have c1:=z4r v (.fin 1) w i x1q j;change Calls _ _ #[_,.string (txt 1)] _ _ at c1;rw[y3f] at c1
 rcases z2e d (by decide) with rfl|⟨x,rfl,H⟩
 ·have g:limV (z1x 2 .inf)=(infS,0):=rfl;have B:cmpV .inf (.fin 1)=1:=rfl;rw[g];rw[B] at c1;have l:=qh c1;clear c1 j i d g B;generalize vtxt .inf=a at *;unfold infS
  go_enter func163,ntmps163
  go_wp2_with fail
  refine nxa l.out fun A c=>?_;go_wp2;go_ret2;exact⟨rfl,c.out⟩
 have o:z1x 2 (.fin x)=if 0<=cmpQ x 1 then .inf else .fin (1 / (1-x)):=rfl
 have s:cmpV (.fin x) (.fin 1)=cmpQ x 1:=rfl;rw[s] at c1
 rcases z1j x 1 with ⟨h,e⟩|h
 ·have hf:=v5h i H h;have E:1-x≠0:=Rat.ne_of_gt ((Rat.lt_iff_sub_pos x 1).1 h);have g:limV (z1x 2 (.fin x))=limR (1 / (1-x)):=by rw[o,e];rfl
  have J:=z2w i;have I:=z2w hf;have c2:=fun k (h:Below w.heap.size w k)=>v6r ⟨#[49]⟩ (txt x) k (by decide) (by omega) (j.below h nlr);have c3:=fun k (h:Below w.heap.size w k)=>v3p ⟨#[49]⟩ (txt (1-x)) k (by decide) (by omega) (j.below h nlr);have C:x7u ⟨#[49]⟩ (txt x)=(txt (1-x),0):=by unfold x7u;rw[y8a,z2h i];exact z8p hf
  have D:y5f ⟨#[49]⟩ (txt (1-x))=limR (1 / (1-x)):=by unfold y5f;rw[y8a,z2h hf];exact if_neg E
  rw[C] at c2;rw[D] at c3;rw[e] at c1;rw[g];change Calls _ _ #[.string (txt x),_] _ _ at c1;change Calls _ _ #[.string (txt x)] _ _;generalize limR (1 / (1-x))=lr at *;obtain⟨ls,L⟩:=lr;generalize txt (1-x)=b at *;generalize txt x=a at *;have l:=qh c1;clear c1;have F:=qh c2;clear c2;have G:=qh c3;clear c3 j i d o s h e hf E g J I C D
  go_enter func163,ntmps163
  go_wp2_with fail
  refine nxa l.out fun A c=>?_
  go_wp2_with fail
  refine nxb (F.out _ c.out) c fun K m=>?_
  go_wp2_with fail
  refine nxb (G.out _ m.out) m fun N u=>?_;go_wp2;go_ret2;exact⟨rfl,u.out⟩
 have p:0<=cmpQ x 1:=by rcases h with ⟨_,e⟩|⟨_,e⟩<;>rw[e]<;>decide
 have g:limV (z1x 2 (.fin x))=(infS,0):=by rw[o,if_pos p];rfl
 rw[g];generalize cmpQ x 1=z at *;generalize vtxt (.fin x)=a at *;have l:=qh c1;clear c1 j i d o s h g;unfold infS
 go_enter func163,ntmps163
 go_wp2_with fail
 refine nxa l.out fun A c=>?_;go_wp2;go_ret2;exact⟨rfl,c.out⟩
end
section
open Go.RowKit
theorem u1n {k:Int} (c:k<1\/3<k) (a:ByteArray):vprs k a=none:=by
 cases h:vprs k a with
 | none=>rfl
 | some v=>have:=z4b (z3b.1 h).2;omega
theorem z9y {k:Int} (c:k<1\/3<k) (a:ByteArray):z0p k a=false:=by unfold z0p;rw[u1n c];rfl
theorem v2d {k:Int} {v:V} (h:wtV k v):k=1\/k=2\/k=3:=by cases v<;>simp only[wtV] at h<;>omega
theorem x6s {k:Int} (c:k<1\/3<k) (a:ByteArray):z0t k a=false:=by
 unfold z0t;cases rdV a with
 | none=>rfl
 | some v=>show decide (wtV k v)=false;rw[decide_eq_false_iff_not];intro h;have:=v2d h;omega
theorem v2m {k:Int} (c:k<1\/3<k):z4e k=false:=by unfold z4e;rw[Bool.and_eq_false_iff];simp;omega
theorem z2x (k:Int):k=1\/k=2\/k=3\/(k<1\/3<k):=by omega
theorem z3m {k:Int} {a:ByteArray} (h:z0p k a=true):∃ v,vprs k a=some v/\rdV a=some v/\okV k v/\a=vtxt v/\fitV v:=by
 unfold z0p at h;obtain⟨v,d⟩:=Option.isSome_iff_exists.1 h;obtain⟨c,g⟩:=z3b.1 d;exact⟨v,d,c,g,y2f c⟩
theorem y4r {k:Int} {a:ByteArray} (h:z0p k a=false):vprs k a=none:=by
 unfold z0p at h;cases c:vprs k a with
 | none=>rfl
 | some v=>rw[c] at h;simp at h
theorem y2r {k:Int} {a b:ByteArray} (h:z0p k a=false):z1i k a b=(⟨#[]⟩,1):=by unfold z1i;rw[y4r h];rfl
theorem y8m {k:Int} {a b:ByteArray} (h:z0p k b=false):z1i k a b=(⟨#[]⟩,1):=by unfold z1i;rw[y4r h];cases vprs k a<;>rfl
theorem z9u {k:Int} {a b:ByteArray} (h:z0p k a=false):z0n k a b=(⟨#[]⟩,1):=by unfold z0n;rw[y4r h];rfl
theorem y3g {k:Int} {a b:ByteArray} (h:z0p k b=false):z0n k a b=(⟨#[]⟩,1):=by unfold z0n;rw[y4r h];cases vprs k a<;>rfl
theorem y8b {k:Int} {a:ByteArray} (h:z0p k a=false):z5h k a=(⟨#[]⟩,1):=by unfold z5h;rw[y4r h];rfl
theorem z3i {w c:World} (h:Below (w.alloc (.cells #[.string ⟨#[105,110,102]⟩,.string ⟨#[48]⟩,.bool true,fv 157,fv 158,fv 159,fv 160,fv 160] 123)).heap.size (w.alloc (.cells #[.string ⟨#[105,110,102]⟩,.string ⟨#[48]⟩,.bool true,fv 157,fv 158,fv 159,fv 160,fv 160] 123)) c) :
  c.cell? ⟨w.heap.size,0,none⟩=some (.string ⟨#[105,110,102]⟩)/\c.cell? ⟨w.heap.size,1,none⟩=some (.string ⟨#[48]⟩)/\c.cell? ⟨w.heap.size,2,none⟩=some (.bool true)/\c.cell? ⟨w.heap.size,3,none⟩=some (fv 157)/\c.cell? ⟨w.heap.size,4,none⟩=some (fv 158)/\c.cell? ⟨w.heap.size,5,none⟩=some (fv 159)/\c.cell? ⟨w.heap.size,6,none⟩=some (fv 160)/\c.cell? ⟨w.heap.size,7,none⟩=some (fv 160) :=
 ⟨(cell_kept h 0).trans rfl,(cell_kept h 1).trans rfl,(cell_kept h 2).trans rfl,(cell_kept h 3).trans rfl,(cell_kept h 4).trans rfl,(cell_kept h 5).trans rfl,(cell_kept h 6).trans rfl,(cell_kept h 7).trans rfl⟩
theorem z3j {w c:World} (h:Below (w.alloc (.cells #[.string ⟨#[48]⟩,.string ⟨#[49]⟩,.bool false,fv 161,fv 162,fv 163,fv 164,fv 165] 123)).heap.size (w.alloc (.cells #[.string ⟨#[48]⟩,.string ⟨#[49]⟩,.bool false,fv 161,fv 162,fv 163,fv 164,fv 165] 123)) c) :
  c.cell? ⟨w.heap.size,0,none⟩=some (.string ⟨#[48]⟩)/\c.cell? ⟨w.heap.size,1,none⟩=some (.string ⟨#[49]⟩)/\c.cell? ⟨w.heap.size,2,none⟩=some (.bool false)/\c.cell? ⟨w.heap.size,3,none⟩=some (fv 161)/\c.cell? ⟨w.heap.size,4,none⟩=some (fv 162)/\c.cell? ⟨w.heap.size,5,none⟩=some (fv 163)/\c.cell? ⟨w.heap.size,6,none⟩=some (fv 164)/\c.cell? ⟨w.heap.size,7,none⟩=some (fv 165) :=
 ⟨(cell_kept h 0).trans rfl,(cell_kept h 1).trans rfl,(cell_kept h 2).trans rfl,(cell_kept h 3).trans rfl,(cell_kept h 4).trans rfl,(cell_kept h 5).trans rfl,(cell_kept h 6).trans rfl,(cell_kept h 7).trans rfl⟩
theorem z3h {w c:World} (h:Below (w.alloc (.cells #[.string ⟨#[48]⟩,.string ⟨#[49]⟩,.bool false,fv 157,fv 162,fv 166,fv 164,fv 165] 123)).heap.size (w.alloc (.cells #[.string ⟨#[48]⟩,.string ⟨#[49]⟩,.bool false,fv 157,fv 162,fv 166,fv 164,fv 165] 123)) c) :
  c.cell? ⟨w.heap.size,0,none⟩=some (.string ⟨#[48]⟩)/\c.cell? ⟨w.heap.size,1,none⟩=some (.string ⟨#[49]⟩)/\c.cell? ⟨w.heap.size,2,none⟩=some (.bool false)/\c.cell? ⟨w.heap.size,3,none⟩=some (fv 157)/\c.cell? ⟨w.heap.size,4,none⟩=some (fv 162)/\c.cell? ⟨w.heap.size,5,none⟩=some (fv 166)/\c.cell? ⟨w.heap.size,6,none⟩=some (fv 164)/\c.cell? ⟨w.heap.size,7,none⟩=some (fv 165) :=
 ⟨(cell_kept h 0).trans rfl,(cell_kept h 1).trans rfl,(cell_kept h 2).trans rfl,(cell_kept h 3).trans rfl,(cell_kept h 4).trans rfl,(cell_kept h 5).trans rfl,(cell_kept h 6).trans rfl,(cell_kept h 7).trans rfl⟩
theorem v6c (a:ByteArray) (w:World) (j:a.size<=9223372036854775807) (i:Tab w):Calls prog 154 #[.int .i64 1,.string a] w (BoolE (z0p 1 a) w):=by
 have c1:=fun g (h:Below w.heap.size w g)=>z5g a g j (i.below h nlr);generalize z0p 1 a=z at *;have c0:=of_1 w;unfold OfEnd at c0;unfold ring1 at *;have l:=qh c0;clear c0;have k:=qh c1;clear c1 j i
 go_enter func154,ntmps154
 go_wp2_with fail
 refine l.out.mono ?_;rintro e m ⟨rfl,hb⟩;have c:=qh (hb.alloc hb.size (.cells ring1 123));clear hb
 go_wp2_with fail
 refine nxb (k.out _ c.out) c fun o d=>?_;go_wp2;go_ret;exact⟨rfl,d.out⟩
theorem v7e (a:ByteArray) (w:World) (j:a.size<=9223372036854775807) (i:Tab w):Calls prog 154 #[.int .i64 2,.string a] w (BoolE (z0p 2 a) w):=by
 have c1:=fun g (h:Below w.heap.size w g)=>z5f a g j (i.below h nlr);generalize z0p 2 a=z at *;have c0:=of_2 w;unfold OfEnd at c0;unfold ring2 at *;have l:=qh c0;clear c0;have k:=qh c1;clear c1 j i
 go_enter func154,ntmps154
 go_wp2_with fail
 refine l.out.mono ?_;rintro e m ⟨rfl,hb⟩;have c:=qh (hb.alloc hb.size (.cells ring2 123));clear hb
 go_wp2_with fail
 refine nxb (k.out _ c.out) c fun o d=>?_;go_wp2;go_ret;exact⟨rfl,d.out⟩
theorem v3s (a:ByteArray) (w:World) (j:a.size<=9223372036854775807) (i:Tab w):Calls prog 154 #[.int .i64 3,.string a] w (BoolE (z0p 3 a) w):=by
 have c1:=fun g (h:Below w.heap.size w g)=>z5e a g j (i.below h nlr);generalize z0p 3 a=z at *;have c0:=of_3 w;unfold OfEnd at c0;unfold ring3 at *;have l:=qh c0;clear c0;have k:=qh c1;clear c1 j i
 go_enter func154,ntmps154
 go_wp2_with fail
 refine l.out.mono ?_;rintro e m ⟨rfl,hb⟩;have c:=qh (hb.alloc hb.size (.cells ring3 123));clear hb
 go_wp2_with fail
 refine nxb (k.out _ c.out) c fun o d=>?_;go_wp2;go_ret;exact⟨rfl,d.out⟩
theorem v0j (k:Int) (a:ByteArray) (w:World) (d:k<1\/3<k):Calls prog 154 #[.int .i64 k,.string a] w (BoolE (z0p k a) w):=by
 rw[z9y d];have c0:=x2v k w d;unfold OfEnd at c0;unfold ring0 at *;have g:=qh c0;clear c0
 go_enter func154,ntmps154
 go_wp2_with fail
 refine g.out.mono ?_;rintro e h ⟨rfl,hb⟩;have c:=qh (hb.alloc hb.size (.cells ring0 123));clear hb;go_wp2;go_ret;exact⟨rfl,c.out⟩
theorem y8e (k:Int) (a:ByteArray) (w:World) (d:a.size<=9223372036854775807) (c:Tab w):Calls prog 154 #[.int .i64 k,.string a] w (BoolE (z0p k a) w):=by
 rcases z2x k with rfl|rfl|rfl|g
 ·exact v6c a w d c
 ·exact v7e a w d c
 ·exact v3s a w d c
 exact v0j k a w g
theorem x6t (a:ByteArray) (w:World) (c:a.size<=9223372036854775807) (d:Tab w):Calls prog 160 #[.string a] w (BoolE (z0t 1 a) w):=by
 rw[x8d];exact y1v a w c d
theorem x8t (a:ByteArray) (w:World) (j:a.size<=9223372036854775807) (i:Tab w):Calls prog 75 #[.int .i64 1,.string a] w (BoolE (z0t 1 a) w):=by
 have c1:=fun g (h:Below w.heap.size w g)=>x6t a g j (i.below h nlr);generalize z0t 1 a=z at *;have c0:=of_1 w;unfold OfEnd at c0;unfold ring1 at *;have l:=qh c0;clear c0;have k:=qh c1;clear c1 j i
 go_enter func75,ntmps75
 go_wp2_with fail
 refine l.out.mono ?_;rintro e m ⟨rfl,hb⟩;have c:=qh (hb.alloc hb.size (.cells ring1 123));clear hb
 go_wp2_with fail
 refine nxb (k.out _ c.out) c fun o d=>?_;go_wp2;go_ret;exact⟨rfl,d.out⟩
theorem x6i (a:ByteArray) (w:World) (c:a.size<=9223372036854775807) (d:Tab w):Calls prog 165 #[.string a] w (BoolE (z0t 2 a) w):=by
 rw[y6d (k:=2) (by omega)];exact y2c a w c d
theorem x8h (a:ByteArray) (w:World) (j:a.size<=9223372036854775807) (i:Tab w):Calls prog 75 #[.int .i64 2,.string a] w (BoolE (z0t 2 a) w):=by
 have c1:=fun g (h:Below w.heap.size w g)=>x6i a g j (i.below h nlr);generalize z0t 2 a=z at *;have c0:=of_2 w;unfold OfEnd at c0;unfold ring2 at *;have l:=qh c0;clear c0;have k:=qh c1;clear c1 j i
 go_enter func75,ntmps75
 go_wp2_with fail
 refine l.out.mono ?_;rintro e m ⟨rfl,hb⟩;have c:=qh (hb.alloc hb.size (.cells ring2 123));clear hb
 go_wp2_with fail
 refine nxb (k.out _ c.out) c fun o d=>?_;go_wp2;go_ret;exact⟨rfl,d.out⟩
theorem x7a (a:ByteArray) (w:World) (c:a.size<=9223372036854775807) (d:Tab w):Calls prog 165 #[.string a] w (BoolE (z0t 3 a) w):=by
 rw[y6d (k:=3) (by omega)];exact y2c a w c d
theorem x9d (a:ByteArray) (w:World) (j:a.size<=9223372036854775807) (i:Tab w):Calls prog 75 #[.int .i64 3,.string a] w (BoolE (z0t 3 a) w):=by
 have c1:=fun g (h:Below w.heap.size w g)=>x7a a g j (i.below h nlr);generalize z0t 3 a=z at *;have c0:=of_3 w;unfold OfEnd at c0;unfold ring3 at *;have l:=qh c0;clear c0;have k:=qh c1;clear c1 j i
 go_enter func75,ntmps75
 go_wp2_with fail
 refine l.out.mono ?_;rintro e m ⟨rfl,hb⟩;have c:=qh (hb.alloc hb.size (.cells ring3 123));clear hb
 go_wp2_with fail
 refine nxb (k.out _ c.out) c fun o d=>?_;go_wp2;go_ret;exact⟨rfl,d.out⟩
theorem x5n (k:Int) (a:ByteArray) (w:World) (d:k<1\/3<k):Calls prog 75 #[.int .i64 k,.string a] w (BoolE (z0t k a) w):=by
 rw[x6s d];have c0:=x2v k w d;unfold OfEnd at c0;unfold ring0 at *;have g:=qh c0;clear c0
 go_enter func75,ntmps75
 go_wp2_with fail
 refine g.out.mono ?_;rintro e h ⟨rfl,hb⟩;have c:=qh (hb.alloc hb.size (.cells ring0 123));clear hb;go_wp2;go_ret;exact⟨rfl,c.out⟩
theorem z3a (k:Int) (a:ByteArray) (w:World) (d:a.size<=9223372036854775807) (c:Tab w):Calls prog 75 #[.int .i64 k,.string a] w (BoolE (z0t k a) w):=by
 rcases z2x k with rfl|rfl|rfl|g
 ·exact x8t a w d c
 ·exact x8h a w d c
 ·exact x9d a w d c
 exact x5n k a w g
theorem v1s:z1d 1=⟨#[105,110,102]⟩:=rfl
theorem x7d (w:World):Calls prog 122 #[.int .i64 1] w (StrE (z1d 1) w):=by
 rw[v1s];have c0:=of_1 w;unfold OfEnd at c0;unfold ring1 at *;have d:=qh c0;clear c0
 go_enter func122,ntmps122
 go_wp2_with fail
 refine d.out.mono ?_;rintro e g ⟨rfl,hb⟩;have c:=qh (hb.alloc hb.size (.cells ring1 123));clear hb;go_wp2;go_ret;exact⟨rfl,c.out⟩
theorem x7r:z1d 2=⟨#[48]⟩:=z5v
theorem x6k (w:World):Calls prog 122 #[.int .i64 2] w (StrE (z1d 2) w):=by
 rw[x7r];have c0:=of_2 w;unfold OfEnd at c0;unfold ring2 at *;have d:=qh c0;clear c0
 go_enter func122,ntmps122
 go_wp2_with fail
 refine d.out.mono ?_;rintro e g ⟨rfl,hb⟩;have c:=qh (hb.alloc hb.size (.cells ring2 123));clear hb;go_wp2;go_ret;exact⟨rfl,c.out⟩
theorem v1g:z1d 3=⟨#[48]⟩:=z5v
theorem x5z (w:World):Calls prog 122 #[.int .i64 3] w (StrE (z1d 3) w):=by
 rw[v1g];have c0:=of_3 w;unfold OfEnd at c0;unfold ring3 at *;have d:=qh c0;clear c0
 go_enter func122,ntmps122
 go_wp2_with fail
 refine d.out.mono ?_;rintro e g ⟨rfl,hb⟩;have c:=qh (hb.alloc hb.size (.cells ring3 123));clear hb;go_wp2;go_ret;exact⟨rfl,c.out⟩
theorem x3y {k:Int} (c:k<1\/3<k):z1d k=⟨#[]⟩:=by unfold z1d;rw[v2m c];rfl
theorem x1d (k:Int) (w:World) (d:k<1\/3<k):Calls prog 122 #[.int .i64 k] w (StrE (z1d k) w):=by
 rw[x3y d];have c0:=x2v k w d;unfold OfEnd at c0;unfold ring0 at *;have g:=qh c0;clear c0
 go_enter func122,ntmps122
 go_wp2_with fail
 refine g.out.mono ?_;rintro e h ⟨rfl,hb⟩;have c:=qh (hb.alloc hb.size (.cells ring0 123));clear hb;go_wp2;go_ret;exact⟨rfl,c.out⟩
theorem z4q (k:Int) (w:World):Calls prog 122 #[.int .i64 k] w (StrE (z1d k) w):=by
 rcases z2x k with rfl|rfl|rfl|c
 ·exact x7d w
 ·exact x6k w
 ·exact x5z w
 exact x1d k w c
theorem v7t:oneF 1=⟨#[48]⟩:=z5v
theorem x8j (w:World):Calls prog 60 #[.int .i64 1] w (StrE (oneF 1) w):=by
 rw[v7t];have c0:=of_1 w;unfold OfEnd at c0;unfold ring1 at *;have d:=qh c0;clear c0
 go_enter func60,ntmps60
 go_wp2_with fail
 refine d.out.mono ?_;rintro e g ⟨rfl,hb⟩;have c:=qh (hb.alloc hb.size (.cells ring1 123));clear hb;go_wp2;go_ret;exact⟨rfl,c.out⟩
theorem v8c:oneF 2=⟨#[49]⟩:=y3f
theorem v2p (w:World):Calls prog 60 #[.int .i64 2] w (StrE (oneF 2) w):=by
 rw[v8c];have c0:=of_2 w;unfold OfEnd at c0;unfold ring2 at *;have d:=qh c0;clear c0
 go_enter func60,ntmps60
 go_wp2_with fail
 refine d.out.mono ?_;rintro e g ⟨rfl,hb⟩;have c:=qh (hb.alloc hb.size (.cells ring2 123));clear hb;go_wp2;go_ret;exact⟨rfl,c.out⟩
theorem v8a:oneF 3=⟨#[49]⟩:=y3f
theorem v0g (w:World):Calls prog 60 #[.int .i64 3] w (StrE (oneF 3) w):=by
 rw[v8a];have c0:=of_3 w;unfold OfEnd at c0;unfold ring3 at *;have d:=qh c0;clear c0
 go_enter func60,ntmps60
 go_wp2_with fail
 refine d.out.mono ?_;rintro e g ⟨rfl,hb⟩;have c:=qh (hb.alloc hb.size (.cells ring3 123));clear hb;go_wp2;go_ret;exact⟨rfl,c.out⟩
theorem x8b {k:Int} (c:k<1\/3<k):oneF k=⟨#[]⟩:=by unfold oneF;rw[v2m c];rfl
theorem x6d (k:Int) (w:World) (d:k<1\/3<k):Calls prog 60 #[.int .i64 k] w (StrE (oneF k) w):=by
 rw[x8b d];have c0:=x2v k w d;unfold OfEnd at c0;unfold ring0 at *;have g:=qh c0;clear c0
 go_enter func60,ntmps60
 go_wp2_with fail
 refine g.out.mono ?_;rintro e h ⟨rfl,hb⟩;have c:=qh (hb.alloc hb.size (.cells ring0 123));clear hb;go_wp2;go_ret;exact⟨rfl,c.out⟩
theorem z7a (k:Int) (w:World):Calls prog 60 #[.int .i64 k] w (StrE (oneF k) w):=by
 rcases z2x k with rfl|rfl|rfl|c
 ·exact x8j w
 ·exact v2p w
 ·exact v0g w
 exact x6d k w c
theorem v9h (a b:ByteArray) (w:World) (z:a.size<=9223372036854775807) (hb:b.size<=9223372036854775807) (l:Tab w):Calls prog 153 #[.int .i64 1,.string a,.string b] w (PairEnd (z1i 1 a b) w):=by
 have c1:=fun j (h:Below w.heap.size w j)=>z5g a j z (l.below h nlr);have c2:=fun j (h:Below w.heap.size w j)=>z5g b j hb (l.below h nlr);cases k:z0p 1 a with
 | false =>
  rw[y2r k];rw[k] at c1;clear k c2 z hb l;have c0:=of_1 w;unfold OfEnd at c0;unfold ring1 at *;have o:=qh c0;clear c0;have s:=qh c1;clear c1
  go_enter func153,ntmps153
  go_wp2_with fail
  refine o.out.mono ?_;rintro e E ⟨rfl,hb⟩;have c:=qh (hb.alloc hb.size (.cells ring1 123));clear hb
  go_wp2_with fail
  refine nxb (s.out _ c.out) c fun K d=>?_;go_wp2;go_ret2;exact⟨rfl,d.out⟩
 | true =>
  cases m:z0p 1 b with
  | false =>
   rw[y8m m];rw[k] at c1;rw[m] at c2;clear k m z hb l;have c0:=of_1 w;unfold OfEnd at c0;unfold ring1 at *;have o:=qh c0;clear c0;have s:=qh c1;clear c1;have A:=qh c2;clear c2
   go_enter func153,ntmps153
   go_wp2_with fail
   refine o.out.mono ?_;rintro e E ⟨rfl,hb⟩;have c:=qh (hb.alloc hb.size (.cells ring1 123));clear hb
   go_wp2_with fail
   refine(s.out _ c.out).mono ?_;rintro e K ⟨rfl,hb⟩;have g:=qh (hb);have d:=qh (z0a c.out hb);clear hb;obtain⟨q0,q1,q2,q3,q4,q5,q6,D⟩:=z3i g.out
   go_wp2_with fail
   refine nxb (A.out _ d.out) d fun O i=>?_;go_wp2;go_ret2;exact⟨rfl,i.out⟩
  | true =>
   rw[k] at c1;rw[m] at c2;obtain⟨v,F,rv,Q,G,p⟩:=z3m k;obtain⟨u,L,N,P,H,I⟩:=z3m m;clear k m;have J:z1i 1 a b=limV (z1k 1 v u):=by unfold z1i;rw[F,L]
   have c3:=fun j (h:Below w.heap.size w j)=>x2x v u j p I (l.below h nlr);rw[<- G,<- H,<- J] at c3;generalize z1i 1 a b=r at *;obtain⟨T,U⟩:=r;clear J F rv Q G p L N P H I z hb l;have c0:=of_1 w;unfold OfEnd at c0;unfold ring1 at *;have o:=qh c0;clear c0;have s:=qh c1;clear c1;have A:=qh c2;clear c2;have R:=qh c3;clear c3
   go_enter func153,ntmps153
   go_wp2_with fail
   refine o.out.mono ?_;rintro e E ⟨rfl,hb⟩;have c:=qh (hb.alloc hb.size (.cells ring1 123));clear hb
   go_wp2_with fail
   refine(s.out _ c.out).mono ?_;rintro e K ⟨rfl,hb⟩;have g:=qh (hb);have d:=qh (z0a c.out hb);clear hb;obtain⟨q0,q1,q2,q3,q4,q5,q6,D⟩:=z3i g.out
   go_wp2_with fail
   refine(A.out _ d.out).mono ?_;rintro e O ⟨rfl,hb⟩;clear q0 q1 q2 q3 q4 q5 q6 D;have C:=qh (z0a g.out hb);have i:=qh (z0a d.out hb);clear hb;obtain⟨q0,q1,q2,q3,q4,q5,q6,D⟩:=z3i C.out
   go_wp2_with fail
   refine nxb (R.out _ i.out) i fun S B=>?_;go_wp2;go_ret2;exact⟨rfl,B.out⟩
theorem u0f (a b:ByteArray) (w:World) (z:a.size<=9223372036854775807) (hb:b.size<=9223372036854775807) (l:Tab w):Calls prog 153 #[.int .i64 2,.string a,.string b] w (PairEnd (z1i 2 a b) w):=by
 have c1:=fun j (h:Below w.heap.size w j)=>z5f a j z (l.below h nlr);have c2:=fun j (h:Below w.heap.size w j)=>z5f b j hb (l.below h nlr);cases k:z0p 2 a with
 | false =>
  rw[y2r k];rw[k] at c1;clear k c2 z hb l;have c0:=of_2 w;unfold OfEnd at c0;unfold ring2 at *;have o:=qh c0;clear c0;have s:=qh c1;clear c1
  go_enter func153,ntmps153
  go_wp2_with fail
  refine o.out.mono ?_;rintro e E ⟨rfl,hb⟩;have c:=qh (hb.alloc hb.size (.cells ring2 123));clear hb
  go_wp2_with fail
  refine nxb (s.out _ c.out) c fun N d=>?_;go_wp2;go_ret2;exact⟨rfl,d.out⟩
 | true =>
  cases m:z0p 2 b with
  | false =>
   rw[y8m m];rw[k] at c1;rw[m] at c2;clear k m z hb l;have c0:=of_2 w;unfold OfEnd at c0;unfold ring2 at *;have o:=qh c0;clear c0;have s:=qh c1;clear c1;have A:=qh c2;clear c2
   go_enter func153,ntmps153
   go_wp2_with fail
   refine o.out.mono ?_;rintro e E ⟨rfl,hb⟩;have c:=qh (hb.alloc hb.size (.cells ring2 123));clear hb
   go_wp2_with fail
   refine(s.out _ c.out).mono ?_;rintro e N ⟨rfl,hb⟩;have g:=qh (hb);have d:=qh (z0a c.out hb);clear hb;obtain⟨q0,q1,q2,q3,q4,q5,q6,D⟩:=z3j g.out
   go_wp2_with fail
   refine nxb (A.out _ d.out) d fun Q i=>?_;go_wp2;go_ret2;exact⟨rfl,i.out⟩
  | true =>
   rw[k] at c1;rw[m] at c2;obtain⟨v,F,rv,K,G,p⟩:=z3m k;obtain⟨u,O,P,J,H,I⟩:=z3m m;clear k m;have L:z1i 2 a b=limV (z1k 2 v u):=by unfold z1i;rw[F,O]
   have c3:=fun j (h:Below w.heap.size w j)=>u0a v u j p I (z0q K (by decide)) (z0q J (by decide)) (l.below h nlr);rw[<- G,<- H,<- L] at c3;generalize z1i 2 a b=r at *;obtain⟨T,U⟩:=r;clear L F rv K G p O P J H I z hb l;have c0:=of_2 w;unfold OfEnd at c0;unfold ring2 at *;have o:=qh c0;clear c0;have s:=qh c1;clear c1;have A:=qh c2;clear c2;have R:=qh c3;clear c3
   go_enter func153,ntmps153
   go_wp2_with fail
   refine o.out.mono ?_;rintro e E ⟨rfl,hb⟩;have c:=qh (hb.alloc hb.size (.cells ring2 123));clear hb
   go_wp2_with fail
   refine(s.out _ c.out).mono ?_;rintro e N ⟨rfl,hb⟩;have g:=qh (hb);have d:=qh (z0a c.out hb);clear hb;obtain⟨q0,q1,q2,q3,q4,q5,q6,D⟩:=z3j g.out
   go_wp2_with fail
   refine(A.out _ d.out).mono ?_;rintro e Q ⟨rfl,hb⟩;clear q0 q1 q2 q3 q4 q5 q6 D;have C:=qh (z0a g.out hb);have i:=qh (z0a d.out hb);clear hb;obtain⟨q0,q1,q2,q3,q4,q5,q6,D⟩:=z3j C.out
   go_wp2_with fail
   refine nxb (R.out _ i.out) i fun S B=>?_;go_wp2;go_ret2;exact⟨rfl,B.out⟩
theorem v8g (a b:ByteArray) (w:World) (z:a.size<=9223372036854775807) (hb:b.size<=9223372036854775807) (l:Tab w):Calls prog 153 #[.int .i64 3,.string a,.string b] w (PairEnd (z1i 3 a b) w):=by
 have c1:=fun j (h:Below w.heap.size w j)=>z5e a j z (l.below h nlr);have c2:=fun j (h:Below w.heap.size w j)=>z5e b j hb (l.below h nlr);cases k:z0p 3 a with
 | false =>
  rw[y2r k];rw[k] at c1;clear k c2 z hb l;have c0:=of_3 w;unfold OfEnd at c0;unfold ring3 at *;have o:=qh c0;clear c0;have s:=qh c1;clear c1
  go_enter func153,ntmps153
  go_wp2_with fail
  refine o.out.mono ?_;rintro e E ⟨rfl,hb⟩;have c:=qh (hb.alloc hb.size (.cells ring3 123));clear hb
  go_wp2_with fail
  refine nxb (s.out _ c.out) c fun K d=>?_;go_wp2;go_ret2;exact⟨rfl,d.out⟩
 | true =>
  cases m:z0p 3 b with
  | false =>
   rw[y8m m];rw[k] at c1;rw[m] at c2;clear k m z hb l;have c0:=of_3 w;unfold OfEnd at c0;unfold ring3 at *;have o:=qh c0;clear c0;have s:=qh c1;clear c1;have A:=qh c2;clear c2
   go_enter func153,ntmps153
   go_wp2_with fail
   refine o.out.mono ?_;rintro e E ⟨rfl,hb⟩;have c:=qh (hb.alloc hb.size (.cells ring3 123));clear hb
   go_wp2_with fail
   refine(s.out _ c.out).mono ?_;rintro e K ⟨rfl,hb⟩;have g:=qh (hb);have d:=qh (z0a c.out hb);clear hb;obtain⟨q0,q1,q2,q3,q4,q5,q6,D⟩:=z3h g.out
   go_wp2_with fail
   refine nxb (A.out _ d.out) d fun O i=>?_;go_wp2;go_ret2;exact⟨rfl,i.out⟩
  | true =>
   rw[k] at c1;rw[m] at c2;obtain⟨v,F,rv,Q,G,p⟩:=z3m k;obtain⟨u,L,N,P,H,I⟩:=z3m m;clear k m;have J:z1i 3 a b=limV (z1k 3 v u):=by unfold z1i;rw[F,L]
   have c3:=fun j (h:Below w.heap.size w j)=>x2b v u j p I (l.below h nlr);rw[<- G,<- H,<- J] at c3;generalize z1i 3 a b=r at *;obtain⟨T,U⟩:=r;clear J F rv Q G p L N P H I z hb l;have c0:=of_3 w;unfold OfEnd at c0;unfold ring3 at *;have o:=qh c0;clear c0;have s:=qh c1;clear c1;have A:=qh c2;clear c2;have R:=qh c3;clear c3
   go_enter func153,ntmps153
   go_wp2_with fail
   refine o.out.mono ?_;rintro e E ⟨rfl,hb⟩;have c:=qh (hb.alloc hb.size (.cells ring3 123));clear hb
   go_wp2_with fail
   refine(s.out _ c.out).mono ?_;rintro e K ⟨rfl,hb⟩;have g:=qh (hb);have d:=qh (z0a c.out hb);clear hb;obtain⟨q0,q1,q2,q3,q4,q5,q6,D⟩:=z3h g.out
   go_wp2_with fail
   refine(A.out _ d.out).mono ?_;rintro e O ⟨rfl,hb⟩;clear q0 q1 q2 q3 q4 q5 q6 D;have C:=qh (z0a g.out hb);have i:=qh (z0a d.out hb);clear hb;obtain⟨q0,q1,q2,q3,q4,q5,q6,D⟩:=z3h C.out
   go_wp2_with fail
   refine nxb (R.out _ i.out) i fun S B=>?_;go_wp2;go_ret2;exact⟨rfl,B.out⟩
theorem v6f (k:Int) (a b:ByteArray) (w:World) (d:k<1\/3<k):Calls prog 153 #[.int .i64 k,.string a,.string b] w (PairEnd (z1i k a b) w):=by
 rw[y2r (z9y d a)];have c0:=x2v k w d;unfold OfEnd at c0;unfold ring0 at *;have g:=qh c0;clear c0
 go_enter func153,ntmps153
 go_wp2_with fail
 refine g.out.mono ?_;rintro e h ⟨rfl,hb⟩;have c:=qh (hb.alloc hb.size (.cells ring0 123));clear hb;go_wp2;go_ret2;exact⟨rfl,c.out⟩
theorem y1y (k:Int) (a b:ByteArray) (w:World) (d:a.size<=9223372036854775807) (hb:b.size<=9223372036854775807) (c:Tab w):Calls prog 153 #[.int .i64 k,.string a,.string b] w (PairEnd (z1i k a b) w):=by
 rcases z2x k with rfl|rfl|rfl|g
 ·exact v9h a b w d hb c
 ·exact u0f a b w d hb c
 ·exact v8g a b w d hb c
 exact v6f k a b w g
end
section
open Go.RowKit
theorem u0y (a:ByteArray) (w:World) (p:a.size<=9223372036854775807) (k:Tab w):Calls prog 216 #[.int .i64 1,.string a] w (PairEnd (z5h 1 a) w):=by
 have c1:=fun i (h:Below w.heap.size w i)=>z5g a i p (k.below h nlr);cases g:z0p 1 a with
 | false =>
  rw[y8b g];rw[g] at c1;clear g p k;have c0:=of_1 w;unfold OfEnd at c0;unfold ring1 at *;have l:=qh c0;clear c0;have o:=qh c1;clear c1
  go_enter func216,ntmps216
  go_wp2_with fail
  refine l.out.mono ?_;rintro e B ⟨rfl,hb⟩;have c:=qh (hb.alloc hb.size (.cells ring1 123));clear hb
  go_wp2_with fail
  refine nxb (o.out _ c.out) c fun E d=>?_;go_wp2;go_ret2;exact⟨rfl,d.out⟩
 | true =>
  rw[g] at c1;obtain⟨v,u,rv,C,z,j⟩:=z3m g;have A:z5h 1 a=limV (z1x 1 v):=by unfold z5h;rw[u]
  have c3:=fun i (h:Below w.heap.size w i)=>x2g v i j (k.below h nlr);rw[<- z,<- A] at c3;generalize z5h 1 a=r at *;obtain⟨G,H⟩:=r;clear g A u rv C z j p k;have c0:=of_1 w;unfold OfEnd at c0;unfold ring1 at *;have l:=qh c0;clear c0;have o:=qh c1;clear c1;have D:=qh c3;clear c3
  go_enter func216,ntmps216
  go_wp2_with fail
  refine l.out.mono ?_;rintro e B ⟨rfl,hb⟩;have c:=qh (hb.alloc hb.size (.cells ring1 123));clear hb
  go_wp2_with fail
  refine(o.out _ c.out).mono ?_;rintro e E ⟨rfl,hb⟩;have m:=qh (hb);have d:=qh (z0a c.out hb);clear hb;obtain⟨q0,q1,q2,q3,q4,q5,q6,I⟩:=z3i m.out
  go_wp2_with fail
  refine nxb (D.out _ d.out) d fun F s=>?_;go_wp2;go_ret2;exact⟨rfl,s.out⟩
theorem u1d (a:ByteArray) (w:World) (p:a.size<=9223372036854775807) (k:Tab w):Calls prog 216 #[.int .i64 2,.string a] w (PairEnd (z5h 2 a) w):=by
 have c1:=fun i (h:Below w.heap.size w i)=>z5f a i p (k.below h nlr);cases g:z0p 2 a with
 | false =>
  rw[y8b g];rw[g] at c1;clear g p k;have c0:=of_2 w;unfold OfEnd at c0;unfold ring2 at *;have l:=qh c0;clear c0;have o:=qh c1;clear c1
  go_enter func216,ntmps216
  go_wp2_with fail
  refine l.out.mono ?_;rintro e C ⟨rfl,hb⟩;have c:=qh (hb.alloc hb.size (.cells ring2 123));clear hb
  go_wp2_with fail
  refine nxb (o.out _ c.out) c fun E d=>?_;go_wp2;go_ret2;exact⟨rfl,d.out⟩
 | true =>
  rw[g] at c1;obtain⟨v,u,rv,A,z,j⟩:=z3m g;have B:z5h 2 a=limV (z1x 2 v):=by unfold z5h;rw[u]
  have c3:=fun i (h:Below w.heap.size w i)=>x2f v i j A (k.below h nlr);rw[<- z,<- B] at c3;generalize z5h 2 a=r at *;obtain⟨G,H⟩:=r;clear g B u rv A z j p k;have c0:=of_2 w;unfold OfEnd at c0;unfold ring2 at *;have l:=qh c0;clear c0;have o:=qh c1;clear c1;have D:=qh c3;clear c3
  go_enter func216,ntmps216
  go_wp2_with fail
  refine l.out.mono ?_;rintro e C ⟨rfl,hb⟩;have c:=qh (hb.alloc hb.size (.cells ring2 123));clear hb
  go_wp2_with fail
  refine(o.out _ c.out).mono ?_;rintro e E ⟨rfl,hb⟩;have m:=qh (hb);have d:=qh (z0a c.out hb);clear hb;obtain⟨q0,q1,q2,q3,q4,q5,q6,I⟩:=z3j m.out
  go_wp2_with fail
  refine nxb (D.out _ d.out) d fun F s=>?_;go_wp2;go_ret2;exact⟨rfl,s.out⟩
theorem v8z (a:ByteArray) (w:World) (p:a.size<=9223372036854775807) (k:Tab w):Calls prog 216 #[.int .i64 3,.string a] w (PairEnd (z5h 3 a) w):=by
 have c1:=fun i (h:Below w.heap.size w i)=>z5e a i p (k.below h nlr);cases g:z0p 3 a with
 | false =>
  rw[y8b g];rw[g] at c1;clear g p k;have c0:=of_3 w;unfold OfEnd at c0;unfold ring3 at *;have l:=qh c0;clear c0;have o:=qh c1;clear c1
  go_enter func216,ntmps216
  go_wp2_with fail
  refine l.out.mono ?_;rintro e B ⟨rfl,hb⟩;have c:=qh (hb.alloc hb.size (.cells ring3 123));clear hb
  go_wp2_with fail
  refine nxb (o.out _ c.out) c fun E d=>?_;go_wp2;go_ret2;exact⟨rfl,d.out⟩
 | true =>
  rw[g] at c1;obtain⟨v,u,rv,C,z,j⟩:=z3m g;have A:z5h 3 a=limV (z1x 3 v):=by unfold z5h;rw[u]
  have c3:=fun i (h:Below w.heap.size w i)=>x0h v i j (k.below h nlr);rw[<- z,<- A] at c3;generalize z5h 3 a=r at *;obtain⟨G,H⟩:=r;clear g A u rv C z j p k;have c0:=of_3 w;unfold OfEnd at c0;unfold ring3 at *;have l:=qh c0;clear c0;have o:=qh c1;clear c1;have D:=qh c3;clear c3
  go_enter func216,ntmps216
  go_wp2_with fail
  refine l.out.mono ?_;rintro e B ⟨rfl,hb⟩;have c:=qh (hb.alloc hb.size (.cells ring3 123));clear hb
  go_wp2_with fail
  refine(o.out _ c.out).mono ?_;rintro e E ⟨rfl,hb⟩;have m:=qh (hb);have d:=qh (z0a c.out hb);clear hb;obtain⟨q0,q1,q2,q3,q4,q5,q6,I⟩:=z3h m.out
  go_wp2_with fail
  refine nxb (D.out _ d.out) d fun F s=>?_;go_wp2;go_ret2;exact⟨rfl,s.out⟩
theorem v4d (k:Int) (a:ByteArray) (w:World) (d:k<1\/3<k):Calls prog 216 #[.int .i64 k,.string a] w (PairEnd (z5h k a) w):=by
 rw[y8b (z9y d a)];have c0:=x2v k w d;unfold OfEnd at c0;unfold ring0 at *;have g:=qh c0;clear c0
 go_enter func216,ntmps216
 go_wp2_with fail
 refine g.out.mono ?_;rintro e h ⟨rfl,hb⟩;have c:=qh (hb.alloc hb.size (.cells ring0 123));clear hb;go_wp2;go_ret2;exact⟨rfl,c.out⟩
theorem y8x (k:Int) (a:ByteArray) (w:World) (d:a.size<=9223372036854775807) (c:Tab w):Calls prog 216 #[.int .i64 k,.string a] w (PairEnd (z5h k a) w):=by
 rcases z2x k with rfl|rfl|rfl|g
 ·exact u0y a w d c
 ·exact u1d a w d c
 ·exact v8z a w d c
 exact v4d k a w g
end
section
open Go.RowKit
end
section
open Go.RowKit
theorem index3a0 (w:World):(Instr.index 126 (.agg #[.string ⟨#[105,110,102]⟩,.string ⟨#[105,110,102]⟩,.string ⟨#[45,105,110,102]⟩]) (.int .i64 0)).run prog w=.ok (.string ⟨#[105,110,102]⟩) w:=by kernel_rfl
theorem index3a1 (w:World):(Instr.index 126 (.agg #[.string ⟨#[105,110,102]⟩,.string ⟨#[105,110,102]⟩,.string ⟨#[45,105,110,102]⟩]) (.int .i64 1)).run prog w=.ok (.string ⟨#[105,110,102]⟩) w:=by kernel_rfl
theorem index3a2 (w:World):(Instr.index 126 (.agg #[.string ⟨#[105,110,102]⟩,.string ⟨#[105,110,102]⟩,.string ⟨#[45,105,110,102]⟩]) (.int .i64 2)).run prog w=.ok (.string ⟨#[45,105,110,102]⟩) w:=by kernel_rfl
theorem index3b0 (w:World):(Instr.index 126 (.agg #[.string ⟨#[48]⟩,.string ⟨#[105,110,102]⟩,.string ⟨#[45,105,110,102]⟩]) (.int .i64 0)).run prog w=.ok (.string ⟨#[48]⟩) w:=by kernel_rfl
theorem index3b1 (w:World):(Instr.index 126 (.agg #[.string ⟨#[48]⟩,.string ⟨#[105,110,102]⟩,.string ⟨#[45,105,110,102]⟩]) (.int .i64 1)).run prog w=.ok (.string ⟨#[105,110,102]⟩) w:=by kernel_rfl
theorem index3b2 (w:World):(Instr.index 126 (.agg #[.string ⟨#[48]⟩,.string ⟨#[105,110,102]⟩,.string ⟨#[45,105,110,102]⟩]) (.int .i64 2)).run prog w=.ok (.string ⟨#[45,105,110,102]⟩) w:=by kernel_rfl
theorem x6u {v:V} (h:fitV v):((vtxt v).toList==[105,110,102])=decide (v=.inf):=by
 cases v with
 | inf=>show (infS.toList==_)=_;rw[z2u];rfl
 | low=>show (lowS.toList==_)=_;rw[z5n];rfl
 | fin q=>show ((txt q).toList==_)=_;rw[z8i h];rfl
theorem x5y {v:V} (h:fitV v):((vtxt v).toList==[45,105,110,102])=decide (v=.low):=by
 cases v with
 | inf=>show (infS.toList==_)=_;rw[z2u];rfl
 | low=>show (lowS.toList==_)=_;rw[z5n];rfl
 | fin q=>show ((txt q).toList==_)=_;rw[y5x h];rfl
theorem y6i {v:V} (h:fitV v):((vtxt v).toList==[48])=decide (v=.fin 0):=by
 cases v with
 | inf=>show (infS.toList==_)=_;rw[z2u];rfl
 | low=>show (lowS.toList==_)=_;rw[z5n];rfl
 | fin q =>
  show ((txt q).toList==_)=_;by_cases c:q=0
  ·subst c;rw[z5v,Lib.toList_data];simp
  rw[decide_eq_false (fun e=>c (by injection e))];exact z4j (l:=[48]) (fun e=>c (u1c h y2k (e.trans z5v.symm)))
theorem z8a:limV .inf=(⟨#[105,110,102]⟩,0):=rfl
theorem x4j:limV .low=(⟨#[45,105,110,102]⟩,0):=rfl
theorem y0a:limV (.fin 0)=(⟨#[48]⟩,0):=(z8p y2k).trans (by rw[z5v])
theorem v4b (a b:ByteArray) (w:World) (N:a.size<=9223372036854775807) (hb:b.size<=9223372036854775807) (D:Tab w):Calls prog 44 #[.int .i64 1,.string a,.string b] w (PairEnd (z0n 1 a b) w):=by
 have c1:=fun s (h:Below w.heap.size w s)=>z5g a s N (D.below h nlr);have c2:=fun s (h:Below w.heap.size w s)=>z5g b s hb (D.below h nlr);cases z:z0p 1 a with
 | false =>
  rw[z9u z];rw[z] at c1;clear z c2 N hb D;have c0:=of_1 w;unfold OfEnd at c0;unfold ring1 at *;have G:=qh c0;clear c0;have K:=qh c1;clear c1
  go_enter func44,ntmps44
  go_wp2_with fail
  refine G.out.mono ?_;rintro e w1 ⟨rfl,hb⟩;have d:=qh (hb.alloc hb.size (.cells ring1 123));clear hb
  go_wp2_with fail
  refine nxb (K.out _ d.out) d fun w2 g=>?_;go_wp2;go_ret2;exact⟨rfl,g.out⟩
 | true =>
  cases F:z0p 1 b with
  | false =>
   rw[y3g F];rw[z] at c1;rw[F] at c2;clear z F N hb D;have c0:=of_1 w;unfold OfEnd at c0;unfold ring1 at *;have G:=qh c0;clear c0;have K:=qh c1;clear c1;have C2:=qh c2;clear c2
   go_enter func44,ntmps44
   go_wp2_with fail
   refine G.out.mono ?_;rintro e w1 ⟨rfl,hb⟩;have d:=qh (hb.alloc hb.size (.cells ring1 123));clear hb
   go_wp2_with fail
   refine(K.out _ d.out).mono ?_;rintro e w2 ⟨rfl,hb⟩;have m:=qh (hb);have g:=qh (z0a d.out hb);clear hb;obtain⟨q0,q1,q2,q3,q4,q5,q6,T⟩:=z3i m.out
   go_wp2_with fail
   refine nxb (C2.out _ g.out) g fun w3 c=>?_;go_wp2;go_ret2;exact⟨rfl,c.out⟩
  | true =>
   rw[z] at c1;rw[F] at c2;obtain⟨v,pv,rv,ov,Y,k⟩:=z3m z;obtain⟨u,pu,ru,ou,R,J⟩:=z3m F;clear z F;have hr:z0n 1 a b=limV (z0i 1 v u):=by unfold z0n;rw[pv,pu]
   have W:=index3a0;have Z:=index3a1;have P:=index3a2;have E:=x6u k;have A:=x5y k;have l:=y6i k;have C:=x6u J;have p:=x5y J;have o:=y6i J;rw[<- Y] at E A l;rw[<- R] at C p o;have c0:=of_1 w;unfold OfEnd at c0;unfold ring1 at *;have G:=qh c0;clear c0;have K:=qh c1;clear c1;have C2:=qh c2;clear c2;rw[hr];obtain⟨r,B⟩:=exq (limV (z0i 1 v u));rw[<- B];obtain⟨I,H⟩:=r;have j:=qh B;clear B;have HX:=qh (And.intro W (And.intro Z P));clear W Z P;have Q:=qh (And.intro E (And.intro A l));clear E A l;have X:=qh (And.intro C (And.intro p o));clear C p o;have EA:=qh Y;have EB:=qh R;have FA:=qh k;have FB:=qh J;have OV:=qh ov;have OU:=qh ou;clear hr pv rv ov Y k pu ru ou R J N hb;have HT:=qh D;clear D
   go_enter func44,ntmps44
   go_wp2_with fail
   refine G.out.mono ?_;rintro e w1 ⟨rfl,hb⟩;have d:=qh (hb.alloc hb.size (.cells ring1 123));clear hb
   go_wp2_with fail
   refine(K.out _ d.out).mono ?_;rintro e w2 ⟨rfl,hb⟩;have m:=qh (hb);have g:=qh (z0a d.out hb);clear hb;obtain⟨q0,q1,q2,q3,q4,q5,q6,T⟩:=z3i m.out
   go_wp2_with fail
   refine(C2.out _ g.out).mono ?_;rintro e w3 ⟨rfl,hb⟩;clear q0 q1 q2 q3 q4 q5 q6 T;have S:=qh (z0a m.out hb);have c:=qh (z0a g.out hb);clear hb;obtain⟨q0,q1,q2,q3,q4,q5,q6,T⟩:=z3i S.out
   go_wp2_with fail
   obtain⟨W,Z,P⟩:=HX.out;obtain⟨E,A,l⟩:=Q.out;obtain⟨C,p,o⟩:=X.out;by_cases v1:v=.inf
   ·subst v1;simp only[decide_true] at E;clear A l C p o;have i:I=⟨#[105,110,102]⟩/\H=0:=by
     have:=j.out;rw[show z0i 1 _ _=.inf from by rw[times1],z8a] at this;injection this with e1 e2;exact⟨e1,e2⟩
    obtain⟨rfl,rfl⟩:=i;refine wp_loop_rounds 4 ?_;rw[rounds_succ];go_wp2;go_ret2;exact⟨rfl,c.out⟩
   rw[decide_eq_false v1] at E;by_cases L:u=.inf
   ·subst L;simp only[decide_true] at C;clear A l p o;have i:I=⟨#[105,110,102]⟩/\H=0:=by
     have:=j.out;rw[show z0i 1 _ _=.inf from by rw[times1];cases v<;>first|rfl|exact absurd rfl v1,z8a] at this
     injection this with e1 e2;exact⟨e1,e2⟩
    obtain⟨rfl,rfl⟩:=i;refine wp_loop_rounds 4 ?_;rw[rounds_succ];go_wp2;go_ret2;exact⟨rfl,c.out⟩
   rw[decide_eq_false L] at C;by_cases O:v=.low
   ·subst O;simp only[decide_true] at A;clear l p o;have i:I=⟨#[45,105,110,102]⟩/\H=0:=by
     have:=j.out;rw[show z0i 1 _ _=.low from by rw[times1];cases u<;>first|rfl|exact absurd rfl L,x4j] at this
     injection this with e1 e2;exact⟨e1,e2⟩
    obtain⟨rfl,rfl⟩:=i;refine wp_loop_rounds 4 ?_;rw[rounds_succ];go_wp2_with fail;rw[rounds_succ];go_wp2_with fail;rw[rounds_succ];go_wp2;go_ret2;exact⟨rfl,c.out⟩
   rw[decide_eq_false O] at A;by_cases U:u=.low
   ·subst U;simp only[decide_true] at p;clear l o;have i:I=⟨#[45,105,110,102]⟩/\H=0:=by
     have:=j.out;rw[show z0i 1 _ _=.low from by rw[times1];cases v<;>first|rfl|exact absurd rfl v1,x4j] at this
     injection this with e1 e2;exact⟨e1,e2⟩
    obtain⟨rfl,rfl⟩:=i;refine wp_loop_rounds 4 ?_;rw[rounds_succ];go_wp2_with fail;rw[rounds_succ];go_wp2_with fail;rw[rounds_succ];go_wp2;go_ret2;exact⟨rfl,c.out⟩
   rw[decide_eq_false U] at p;clear l o;cases v with
   | inf=>exact absurd rfl v1
   | low=>exact absurd rfl O
   | fin x =>
    cases u with
    | inf=>exact absurd rfl L
    | low=>exact absurd rfl U
    | fin y =>
     have za:a.size<=9223372036854775807:=by have:=z2w FA.out;rw[EA.out];show (txt x).size<=_;omega
     have zb:b.size<=9223372036854775807:=by have:=z2w FB.out;rw[EB.out];show (txt y).size<=_;omega
     have c3:=fun s (h:Below w.heap.size w s)=>x4e a b s za zb (HT.out.below h nlr);have e3:y8w a b=(I,H):=by
      rw[j.out,times1,EA.out,EB.out];show y8w (txt x) (txt y)=_;unfold y8w;rw[z2h FA.out,z2h FB.out];rfl
     rw[e3] at c3;have C3:=qh c3;clear c3 e3 za zb;refine wp_loop_rounds 4 ?_;rw[rounds_succ];go_wp2_with fail;rw[rounds_succ];go_wp2_with fail;rw[rounds_succ];go_wp2_with fail;rw[rounds_succ];go_wp2_with fail
     go_wp2_with fail
     refine nxb (C3.out _ c.out) c fun w4 a1=>?_;go_wp2;go_ret2;exact⟨rfl,a1.out⟩
theorem v3w (a b:ByteArray) (w:World) (P:a.size<=9223372036854775807) (hb:b.size<=9223372036854775807) (G:Tab w):Calls prog 44 #[.int .i64 2,.string a,.string b] w (PairEnd (z0n 2 a b) w):=by
 have c1:=fun s (h:Below w.heap.size w s)=>z5f a s P (G.below h nlr);have c2:=fun s (h:Below w.heap.size w s)=>z5f b s hb (G.below h nlr);cases z:z0p 2 a with
 | false =>
  rw[z9u z];rw[z] at c1;clear z c2 P hb G;have c0:=of_2 w;unfold OfEnd at c0;unfold ring2 at *;have I:=qh c0;clear c0;have N:=qh c1;clear c1
  go_enter func44,ntmps44
  go_wp2_with fail
  refine I.out.mono ?_;rintro e w1 ⟨rfl,hb⟩;have d:=qh (hb.alloc hb.size (.cells ring2 123));clear hb
  go_wp2_with fail
  refine nxb (N.out _ d.out) d fun w2 g=>?_;go_wp2;go_ret2;exact⟨rfl,g.out⟩
 | true =>
  cases H:z0p 2 b with
  | false =>
   rw[y3g H];rw[z] at c1;rw[H] at c2;clear z H P hb G;have c0:=of_2 w;unfold OfEnd at c0;unfold ring2 at *;have I:=qh c0;clear c0;have N:=qh c1;clear c1;have C2:=qh c2;clear c2
   go_enter func44,ntmps44
   go_wp2_with fail
   refine I.out.mono ?_;rintro e w1 ⟨rfl,hb⟩;have d:=qh (hb.alloc hb.size (.cells ring2 123));clear hb
   go_wp2_with fail
   refine(N.out _ d.out).mono ?_;rintro e w2 ⟨rfl,hb⟩;have l:=qh (hb);have g:=qh (z0a d.out hb);clear hb;obtain⟨q0,q1,q2,q3,q4,q5,q6,W⟩:=z3j l.out
   go_wp2_with fail
   refine nxb (C2.out _ g.out) g fun w3 c=>?_;go_wp2;go_ret2;exact⟨rfl,c.out⟩
  | true =>
   rw[z] at c1;rw[H] at c2;obtain⟨v,pv,rv,ov,ea,k⟩:=z3m z;obtain⟨u,pu,ru,ou,T,L⟩:=z3m H;clear z H;have hr:z0n 2 a b=limV (z0i 2 v u):=by unfold z0n;rw[pv,pu]
   have Y:=index3b0;have x1:=index3b1;have R:=index3b2;have A:=x6u k;have p:=x5y k;have F:=y6i k;have m:=x6u L;have o:=x5y L;have D:=y6i L;rw[<- ea] at A p F;rw[<- T] at m o D;have c0:=of_2 w;unfold OfEnd at c0;unfold ring2 at *;have I:=qh c0;clear c0;have N:=qh c1;clear c1;have C2:=qh c2;clear c2;rw[hr];obtain⟨r,B⟩:=exq (limV (z0i 2 v u));rw[<- B];obtain⟨K,J⟩:=r;have j:=qh B;clear B;have HX:=qh (And.intro Y (And.intro x1 R));clear Y x1 R;have S:=qh (And.intro A (And.intro p F));clear A p F;have Z:=qh (And.intro m (And.intro o D));clear m o D;have EA:=qh ea;have EB:=qh T;have FA:=qh k;have FB:=qh L;have OV:=qh ov;have OU:=qh ou;clear hr pv rv ov ea k pu ru ou T L P hb;have HT:=qh G;clear G
   go_enter func44,ntmps44
   go_wp2_with fail
   refine I.out.mono ?_;rintro e w1 ⟨rfl,hb⟩;have d:=qh (hb.alloc hb.size (.cells ring2 123));clear hb
   go_wp2_with fail
   refine(N.out _ d.out).mono ?_;rintro e w2 ⟨rfl,hb⟩;have l:=qh (hb);have g:=qh (z0a d.out hb);clear hb;obtain⟨q0,q1,q2,q3,q4,q5,q6,W⟩:=z3j l.out
   go_wp2_with fail
   refine(C2.out _ g.out).mono ?_;rintro e w3 ⟨rfl,hb⟩;clear q0 q1 q2 q3 q4 q5 q6 W;have U:=qh (z0a l.out hb);have c:=qh (z0a g.out hb);clear hb;obtain⟨q0,q1,q2,q3,q4,q5,q6,W⟩:=z3j U.out
   go_wp2_with fail
   obtain⟨Y,x1,R⟩:=HX.out;obtain⟨A,p,F⟩:=S.out;obtain⟨m,o,D⟩:=Z.out;have C:v≠.low:=z0q OV.out (by decide);have E:u≠.low:=z0q OU.out (by decide);rw[decide_eq_false C] at p;rw[decide_eq_false E] at o;by_cases v1:v=.fin 0
   ·subst v1;simp only[decide_true] at F;clear A p m o D;have i:K=⟨#[48]⟩/\J=0:=by
     have:=j.out;rw[show z0i 2 _ _=.fin 0 from by rw[times23 (by decide) C E,z2d],y0a] at this;injection this with e1 e2;exact⟨e1,e2⟩
    obtain⟨rfl,rfl⟩:=i;refine wp_loop_rounds 4 ?_;rw[rounds_succ];go_wp2;go_ret2;exact⟨rfl,c.out⟩
   rw[decide_eq_false v1] at F;by_cases O:u=.fin 0
   ·subst O;simp only[decide_true] at D;clear A p m o;have i:K=⟨#[48]⟩/\J=0:=by
     have:=j.out;rw[show z0i 2 _ _=.fin 0 from by rw[times23 (by decide) C E,z2a],y0a] at this;injection this with e1 e2;exact⟨e1,e2⟩
    obtain⟨rfl,rfl⟩:=i;refine wp_loop_rounds 4 ?_;rw[rounds_succ];go_wp2;go_ret2;exact⟨rfl,c.out⟩
   rw[decide_eq_false O] at D;by_cases Q:v=.inf
   ·subst Q;simp only[decide_true] at A;clear p m o;have i:K=⟨#[105,110,102]⟩/\J=0:=by
     have:=j.out;rw[show z0i 2 _ _=.inf from by rw[times23 (by decide) C E];unfold mulV;rw[if_neg (fun e=>e.elim v1 O)],z8a] at this;injection this with e1 e2;exact⟨e1,e2⟩
    obtain⟨rfl,rfl⟩:=i;refine wp_loop_rounds 4 ?_;rw[rounds_succ];go_wp2_with fail;rw[rounds_succ];go_wp2;go_ret2;exact⟨rfl,c.out⟩
   rw[decide_eq_false Q] at A;by_cases X:u=.inf
   ·subst X;simp only[decide_true] at m;clear p o;have i:K=⟨#[105,110,102]⟩/\J=0:=by
     have:=j.out;rw[show z0i 2 _ _=.inf from by rw[times23 (by decide) C E];unfold mulV;rw[if_neg (fun e=>e.elim v1 O)];cases v<;>rfl,z8a] at this
     injection this with e1 e2;exact⟨e1,e2⟩
    obtain⟨rfl,rfl⟩:=i;refine wp_loop_rounds 4 ?_;rw[rounds_succ];go_wp2_with fail;rw[rounds_succ];go_wp2;go_ret2;exact⟨rfl,c.out⟩
   rw[decide_eq_false X] at m;cases v with
   | inf=>exact absurd rfl Q
   | low=>exact absurd rfl C
   | fin x =>
    cases u with
    | inf=>exact absurd rfl X
    | low=>exact absurd rfl E
    | fin y =>
     have za:a.size<=9223372036854775807:=by have:=z2w FA.out;rw[EA.out];show (txt x).size<=_;omega
     have zb:b.size<=9223372036854775807:=by have:=z2w FB.out;rw[EB.out];show (txt y).size<=_;omega
     have c3:=fun s (h:Below w.heap.size w s)=>x3x a b s za zb (HT.out.below h nlr);have e3:y8q a b=(K,J):=by
      rw[j.out,times23 (by decide) C E,z1f,EA.out,EB.out];show y8q (txt x) (txt y)=_;unfold y8q;rw[z2h FA.out,z2h FB.out];rfl
     rw[e3] at c3;have C3:=qh c3;clear c3 e3 za zb;refine wp_loop_rounds 4 ?_;rw[rounds_succ];go_wp2_with fail;rw[rounds_succ];go_wp2_with fail;rw[rounds_succ];go_wp2_with fail;rw[rounds_succ];go_wp2_with fail
     go_wp2_with fail
     refine nxb (C3.out _ c.out) c fun w4 a1=>?_;go_wp2;go_ret2;exact⟨rfl,a1.out⟩
theorem v3q (a b:ByteArray) (w:World) (P:a.size<=9223372036854775807) (hb:b.size<=9223372036854775807) (G:Tab w):Calls prog 44 #[.int .i64 3,.string a,.string b] w (PairEnd (z0n 3 a b) w):=by
 have c1:=fun s (h:Below w.heap.size w s)=>z5e a s P (G.below h nlr);have c2:=fun s (h:Below w.heap.size w s)=>z5e b s hb (G.below h nlr);cases z:z0p 3 a with
 | false =>
  rw[z9u z];rw[z] at c1;clear z c2 P hb G;have c0:=of_3 w;unfold OfEnd at c0;unfold ring3 at *;have I:=qh c0;clear c0;have N:=qh c1;clear c1
  go_enter func44,ntmps44
  go_wp2_with fail
  refine I.out.mono ?_;rintro e w1 ⟨rfl,hb⟩;have d:=qh (hb.alloc hb.size (.cells ring3 123));clear hb
  go_wp2_with fail
  refine nxb (N.out _ d.out) d fun w2 g=>?_;go_wp2;go_ret2;exact⟨rfl,g.out⟩
 | true =>
  cases H:z0p 3 b with
  | false =>
   rw[y3g H];rw[z] at c1;rw[H] at c2;clear z H P hb G;have c0:=of_3 w;unfold OfEnd at c0;unfold ring3 at *;have I:=qh c0;clear c0;have N:=qh c1;clear c1;have C2:=qh c2;clear c2
   go_enter func44,ntmps44
   go_wp2_with fail
   refine I.out.mono ?_;rintro e w1 ⟨rfl,hb⟩;have d:=qh (hb.alloc hb.size (.cells ring3 123));clear hb
   go_wp2_with fail
   refine(N.out _ d.out).mono ?_;rintro e w2 ⟨rfl,hb⟩;have l:=qh (hb);have g:=qh (z0a d.out hb);clear hb;obtain⟨q0,q1,q2,q3,q4,q5,q6,W⟩:=z3h l.out
   go_wp2_with fail
   refine nxb (C2.out _ g.out) g fun w3 c=>?_;go_wp2;go_ret2;exact⟨rfl,c.out⟩
  | true =>
   rw[z] at c1;rw[H] at c2;obtain⟨v,pv,rv,ov,ea,k⟩:=z3m z;obtain⟨u,pu,ru,ou,T,L⟩:=z3m H;clear z H;have hr:z0n 3 a b=limV (z0i 3 v u):=by unfold z0n;rw[pv,pu]
   have Y:=index3b0;have x1:=index3b1;have R:=index3b2;have A:=x6u k;have p:=x5y k;have F:=y6i k;have m:=x6u L;have o:=x5y L;have D:=y6i L;rw[<- ea] at A p F;rw[<- T] at m o D;have c0:=of_3 w;unfold OfEnd at c0;unfold ring3 at *;have I:=qh c0;clear c0;have N:=qh c1;clear c1;have C2:=qh c2;clear c2;rw[hr];obtain⟨r,B⟩:=exq (limV (z0i 3 v u));rw[<- B];obtain⟨K,J⟩:=r;have j:=qh B;clear B;have HX:=qh (And.intro Y (And.intro x1 R));clear Y x1 R;have S:=qh (And.intro A (And.intro p F));clear A p F;have Z:=qh (And.intro m (And.intro o D));clear m o D;have EA:=qh ea;have EB:=qh T;have FA:=qh k;have FB:=qh L;have OV:=qh ov;have OU:=qh ou;clear hr pv rv ov ea k pu ru ou T L P hb;have HT:=qh G;clear G
   go_enter func44,ntmps44
   go_wp2_with fail
   refine I.out.mono ?_;rintro e w1 ⟨rfl,hb⟩;have d:=qh (hb.alloc hb.size (.cells ring3 123));clear hb
   go_wp2_with fail
   refine(N.out _ d.out).mono ?_;rintro e w2 ⟨rfl,hb⟩;have l:=qh (hb);have g:=qh (z0a d.out hb);clear hb;obtain⟨q0,q1,q2,q3,q4,q5,q6,W⟩:=z3h l.out
   go_wp2_with fail
   refine(C2.out _ g.out).mono ?_;rintro e w3 ⟨rfl,hb⟩;clear q0 q1 q2 q3 q4 q5 q6 W;have U:=qh (z0a l.out hb);have c:=qh (z0a g.out hb);clear hb;obtain⟨q0,q1,q2,q3,q4,q5,q6,W⟩:=z3h U.out
   go_wp2_with fail
   obtain⟨Y,x1,R⟩:=HX.out;obtain⟨A,p,F⟩:=S.out;obtain⟨m,o,D⟩:=Z.out;have C:v≠.low:=z0q OV.out (by decide);have E:u≠.low:=z0q OU.out (by decide);rw[decide_eq_false C] at p;rw[decide_eq_false E] at o;by_cases v1:v=.fin 0
   ·subst v1;simp only[decide_true] at F;clear A p m o D;have i:K=⟨#[48]⟩/\J=0:=by
     have:=j.out;rw[show z0i 3 _ _=.fin 0 from by rw[times23 (by decide) C E,z2d],y0a] at this;injection this with e1 e2;exact⟨e1,e2⟩
    obtain⟨rfl,rfl⟩:=i;refine wp_loop_rounds 4 ?_;rw[rounds_succ];go_wp2;go_ret2;exact⟨rfl,c.out⟩
   rw[decide_eq_false v1] at F;by_cases O:u=.fin 0
   ·subst O;simp only[decide_true] at D;clear A p m o;have i:K=⟨#[48]⟩/\J=0:=by
     have:=j.out;rw[show z0i 3 _ _=.fin 0 from by rw[times23 (by decide) C E,z2a],y0a] at this;injection this with e1 e2;exact⟨e1,e2⟩
    obtain⟨rfl,rfl⟩:=i;refine wp_loop_rounds 4 ?_;rw[rounds_succ];go_wp2;go_ret2;exact⟨rfl,c.out⟩
   rw[decide_eq_false O] at D;by_cases Q:v=.inf
   ·subst Q;simp only[decide_true] at A;clear p m o;have i:K=⟨#[105,110,102]⟩/\J=0:=by
     have:=j.out;rw[show z0i 3 _ _=.inf from by rw[times23 (by decide) C E];unfold mulV;rw[if_neg (fun e=>e.elim v1 O)],z8a] at this;injection this with e1 e2;exact⟨e1,e2⟩
    obtain⟨rfl,rfl⟩:=i;refine wp_loop_rounds 4 ?_;rw[rounds_succ];go_wp2_with fail;rw[rounds_succ];go_wp2;go_ret2;exact⟨rfl,c.out⟩
   rw[decide_eq_false Q] at A;by_cases X:u=.inf
   ·subst X;simp only[decide_true] at m;clear p o;have i:K=⟨#[105,110,102]⟩/\J=0:=by
     have:=j.out;rw[show z0i 3 _ _=.inf from by rw[times23 (by decide) C E];unfold mulV;rw[if_neg (fun e=>e.elim v1 O)];cases v<;>rfl,z8a] at this
     injection this with e1 e2;exact⟨e1,e2⟩
    obtain⟨rfl,rfl⟩:=i;refine wp_loop_rounds 4 ?_;rw[rounds_succ];go_wp2_with fail;rw[rounds_succ];go_wp2;go_ret2;exact⟨rfl,c.out⟩
   rw[decide_eq_false X] at m;cases v with
   | inf=>exact absurd rfl Q
   | low=>exact absurd rfl C
   | fin x =>
    cases u with
    | inf=>exact absurd rfl X
    | low=>exact absurd rfl E
    | fin y =>
     have za:a.size<=9223372036854775807:=by have:=z2w FA.out;rw[EA.out];show (txt x).size<=_;omega
     have zb:b.size<=9223372036854775807:=by have:=z2w FB.out;rw[EB.out];show (txt y).size<=_;omega
     have c3:=fun s (h:Below w.heap.size w s)=>x3x a b s za zb (HT.out.below h nlr);have e3:y8q a b=(K,J):=by
      rw[j.out,times23 (by decide) C E,z1f,EA.out,EB.out];show y8q (txt x) (txt y)=_;unfold y8q;rw[z2h FA.out,z2h FB.out];rfl
     rw[e3] at c3;have C3:=qh c3;clear c3 e3 za zb;refine wp_loop_rounds 4 ?_;rw[rounds_succ];go_wp2_with fail;rw[rounds_succ];go_wp2_with fail;rw[rounds_succ];go_wp2_with fail;rw[rounds_succ];go_wp2_with fail
     go_wp2_with fail
     refine nxb (C3.out _ c.out) c fun w4 a1=>?_;go_wp2;go_ret2;exact⟨rfl,a1.out⟩
theorem v0p (k:Int) (a b:ByteArray) (w:World) (d:k<1\/3<k):Calls prog 44 #[.int .i64 k,.string a,.string b] w (PairEnd (z0n k a b) w):=by
 rw[z9u (z9y d a)];have c0:=x2v k w d;unfold OfEnd at c0;unfold ring0 at *;have g:=qh c0;clear c0
 go_enter func44,ntmps44
 go_wp2_with fail
 refine g.out.mono ?_;rintro e h ⟨rfl,hb⟩;have c:=qh (hb.alloc hb.size (.cells ring0 123));clear hb;go_wp2;go_ret2;exact⟨rfl,c.out⟩
theorem z7c (k:Int) (a b:ByteArray) (w:World) (d:a.size<=9223372036854775807) (hb:b.size<=9223372036854775807) (c:Tab w):Calls prog 44 #[.int .i64 k,.string a,.string b] w (PairEnd (z0n k a b) w):=by
 rcases z2x k with rfl|rfl|rfl|g
 ·exact v4b a b w d hb c
 ·exact v3w a b w d hb c
 ·exact v3q a b w d hb c
 exact v0p k a b w g
end
section
open Go.RowKit
end
section
open Go.RowKit
theorem y0k (v:V):(limV v).1.size<=802:=by
 cases v with
 | inf=>show 3<=802;omega
 | low=>show 4<=802;omega
 | fin q=>exact x0u q
theorem y3q:argS.1.size<=802:=by show 0<=802;omega
theorem x5q (k:Int) (a b:ByteArray):(z1i k a b).1.size<=802:=by unfold z1i;split<;>first|exact y0k _|exact y3q
theorem x2h (k:Int) (a b:ByteArray):(z0n k a b).1.size<=802:=by unfold z0n;split<;>first|exact y0k _|exact y3q
theorem x6n (k:Int) (a:ByteArray):(z5h k a).1.size<=802:=by unfold z5h;split<;>first|exact y0k _|exact y3q
theorem z8g (k:Int):(z1d k).size<=100000:=by
 rcases z2x k with rfl|rfl|rfl|c
 ·rw[v1s];decide
 ·rw[x7r];decide
 ·rw[v1g];decide
 rw[x3y c];decide
theorem v0n (k:Int):(oneF k).size<=100000:=by
 rcases z2x k with rfl|rfl|rfl|c
 ·rw[v7t];decide
 ·rw[v8c];decide
 ·rw[v8a];decide
 rw[x8b c];decide
end
section
open Go.RowKit
end
section
open Go.RowKit
def dval:List Nat->Nat | []=>0|x::xs=>x+10*dval xs
def Dig (xs:List Nat):Prop:=∀ i,nth xs i<10
theorem v4f {xs:List Nat} (h:Dig xs) (k:Nat):Dig (xs.take k):=fun i=>by
 by_cases c:i<k
 ·rw[z8b _ _ _ c];exact h i
 rw[z1q _ _ (by rw[List.length_take];omega)];omega
theorem x1e (xs c:List Nat):dval (xs++c)=dval xs+10 ^ xs.length*dval c:=by
 induction xs with
 | nil=>simp[dval]
 | cons x xs ih=>simp only[List.cons_append,dval,ih,List.length_cons,Nat.pow_succ];rw[Nat.mul_add,Nat.mul_comm (10 ^ xs.length) 10,Nat.mul_assoc];omega
theorem x9n (xs:List Nat) (x:Nat):dval (xs++[x])=dval xs+10 ^ xs.length*x:=by rw[x1e];simp[dval]
theorem z8x (xs:List Nat) (k:Nat):dval (xs.take (k+1))=dval (xs.take k)+10 ^ k*nth xs k:=by
 by_cases h:k<xs.length
 ·rw[y5t xs k h,x9n,List.length_take,Nat.min_eq_left (by omega)]
 rw[List.take_of_length_le (by omega),List.take_of_length_le (by omega),z1q xs k (by omega)];simp
theorem x8q {xs:List Nat} (h:∀ i,nth xs i=0):dval xs=0:=by
 induction xs with
 | nil=>rfl
 | cons x xs ih=>simp only[dval];rw[ih (fun i=>h (i+1)),show x=0 from h 0]
theorem v1v {xs:List Nat} (h:Dig xs):dval xs<10 ^ xs.length:=by
 induction xs with
 | nil=>simp[dval]
 | cons x xs ih =>
  have c:=h 0;rw[z6x] at c;have:=ih (fun i=>h (i+1));simp only[dval,List.length_cons,Nat.pow_succ];omega
def byteOf (d:Nat):UInt8:=UInt8.ofNat (48+d)
theorem byteOf_toNat {d:Nat} (h:d<10):(byteOf d).toNat=48+d:=u8n (by omega)
def bytesOf (xs:List Nat):List UInt8:=xs.reverse.map byteOf
end
section
open Go.RowKit
end
section
open Go.RowKit
end
section
open Go.RowKit
end
section
open Go.RowKit
theorem v9k {L:List Nat} (h:Dig L) (j v:Nat) (d:v<10):Dig (L.set j v):=fun i=>by
 by_cases c:j<L.length
 ·rw[y1f L j v i c];split
  ·exact d
  exact h i
 rw[List.set_eq_of_length_le (by omega)];exact h i
theorem v6u (L:List Nat):∀ (j v:Nat),j<L.length->dval (L.set j v)+10 ^ j*nth L j=dval L+10 ^ j*v:=by
 induction L with
 | nil=>intro j v h;simp at h
 | cons x L ih =>
  intro j v h;cases j with
  | zero=>simp only[List.set_cons_zero,dval,z6x,Nat.pow_zero];omega
  | succ j =>
   have:=ih j v (by simpa using h);simp only[List.set_cons_succ,dval,z5b,Nat.pow_succ];have e:10*(dval (L.set j v)+10 ^ j*nth L j)=10*(dval L+10 ^ j*v):=by rw[this]
   rw[Nat.mul_add,Nat.mul_add,<- Nat.mul_assoc,<- Nat.mul_assoc,Nat.mul_comm 10 (10 ^ j)] at e;omega
theorem v2j (k i:Nat):nth (List.replicate k 0) i=0:=by unfold nth;simp[List.getD_eq_getElem?_getD,List.getElem?_replicate];split<;>rfl
structure MulIR (xs ys L:List Nat) (i k c:Nat):Prop where
 dig:Dig L
 carry:c<10
 len:L.length=xs.length+ys.length+1
 val:dval L+10 ^ (i+k)*c=dval (xs.take i)*dval ys+10 ^ i*(nth xs i*dval (ys.take k))
structure MulOR (xs ys L:List Nat) (i:Nat):Prop where
 dig:Dig L
 len:L.length=xs.length+ys.length+1
 val:dval L=dval (xs.take i)*dval ys
theorem MulOR.start (xs c:List Nat):MulOR xs c (List.replicate (xs.length+c.length+1) 0) 0 :=
 ⟨fun i=>by rw[v2j];omega,by simp,by rw[x8q (v2j _)];simp[dval]⟩
theorem x1f {l c x y:Nat} (h:l<10) (g:c<10) (i:x<10) (d:y<10):l+x*y+c<100:=by
 have:x*y<=9*9:=Nat.mul_le_mul (by omega) (by omega);omega
theorem MulIR.step {xs d L:List Nat} {i k c l x y:Nat} (h:MulIR xs d L i k c) (D:Dig xs) (C:Dig d) (hi:i<xs.length) (E:k<d.length+1) (u:l=nth L (i+k)) (s:x=nth xs i) (z:y=nth d k) :
  MulIR xs d (L.set (i+k) ((l+x*y+c) % 10)) i (k+1) ((l+x*y+c) / 10):=by
 have hb:=x1f (h.dig (i+k)) h.carry (D i) (C k);have o:i+k<L.length:=by rw[h.len];omega
 have j:=v6u L (i+k) ((l+x*y+c) % 10) o;have g:=h.val;have m:=z8x d k;rw[<- u,<- s,<- z] at hb;rw[<- u] at j;rw[<- z] at m;rw[<- s] at g;generalize hp:l+x*y+c=p at *;have B:10 ^ (i+k)*l+10 ^ (i+k)*(x*y)+10 ^ (i+k)*c=10 ^ (i+k)*p:=by rw[<- hp,Nat.mul_add,Nat.mul_add]
 have A:10 ^ (i+k)*p=10 ^ (i+k)*(p % 10)+10 ^ (i+k)*10*(p / 10):=by
  rw[Nat.mul_assoc,<- Nat.mul_add,Nat.mod_add_div]
 refine⟨v9k h.dig _ _ (by omega),by omega,by simp[h.len],?_⟩;rw[m,Nat.mul_add,Nat.mul_add,show i+(k+1)=i+k+1 by omega,Nat.pow_succ 10 (i+k),<- s];have e:10 ^ i*(x*(10 ^ k*y))=10 ^ (i+k)*(x*y):=by
  rw[Nat.pow_add,Nat.mul_left_comm x,Nat.mul_assoc]
 rw[e];omega
theorem MulIR.done {xs d L:List Nat} {i c:Nat} (h:MulIR xs d L i (d.length+1) c) (l:Dig xs) (m:Dig d) (hi:i<xs.length):MulOR xs d L (i+1):=by
 refine⟨h.dig,h.len,?_⟩;have g:=h.val;rw[List.take_of_length_le (by omega:d.length<=d.length+1)] at g;have e:dval (xs.take i)*dval d+10 ^ i*(nth xs i*dval d)=dval (xs.take (i+1))*dval d:=by
  rw[z8x,Nat.add_mul,Nat.mul_assoc]
 rw[e] at g;have k:dval (xs.take (i+1))<10 ^ (i+1):=by
  have:=v1v (v4f l (i+1));rw[List.length_take,Nat.min_eq_left (by omega)] at this;exact this
 have u:=v1v m;have o:dval (xs.take (i+1))*dval d<10 ^ (i+1)*10 ^ d.length:=by
  have p:dval (xs.take (i+1))*dval d<=dval (xs.take (i+1))*10 ^ d.length:=Nat.mul_le_mul_left _ (by omega);have s:dval (xs.take (i+1))*10 ^ d.length<10 ^ (i+1)*10 ^ d.length:=Nat.mul_lt_mul_of_pos_right k (Nat.pow_pos (by omega));omega
 rw[<- Nat.pow_add,show i+1+d.length=i+(d.length+1) by omega] at o
 rcases Nat.eq_zero_or_pos c with j|j
 ·subst j;rw[Nat.mul_zero,Nat.add_zero] at g;exact g
 have:10 ^ (i+(d.length+1))*1<=10 ^ (i+(d.length+1))*c:=Nat.mul_le_mul_left _ j;omega
theorem MulOR.done {xs c L:List Nat} (h:MulOR xs c L xs.length):dval L=dval xs*dval c:=by rw[h.val,List.take_length]
end
section
open Go.RowKit
structure DivI (l:List UInt8) (n:Nat) (qb:List UInt8) (rn i:Nat):Prop where
 len:qb.length=i
 dig:dgts qb=true
 lt:rn<n
 val:num qb*n+rn=num (l.take i)
theorem DivI.start (l:List UInt8) {n:Nat} (h:n≠0):DivI l n [] 0 0:=⟨rfl,rfl,by omega,by simp[num]⟩
theorem x5x {j:Nat} (h:j<10):dgt (byteOf j)=true:=by simp only[dgt,byteOf_toNat h];simp;omega
theorem DivI.step {l:List UInt8} {n:Nat} {g:List UInt8} {d i j m:Nat} {c:UInt8} (h:DivI l n g d i) (o:l.take (i+1)=l.take i++[c]) (p:m<n) (k:j<10) (s:m+j*n=10*d+(c.toNat-48)) :
  DivI l n (g++[byteOf j]) m (i+1):=by
 refine⟨by rw[List.length_append,h.len];rfl,by rw[z7h,h.dig,x5x k];rfl,p,?_⟩;rw[z6b,o,z6b,<- h.val,byteOf_toNat k,show 48+j-48=j by omega,Nat.add_mul,Nat.mul_add,Nat.mul_assoc];omega
structure Strip (l:List UInt8) (k:Nat):Prop where
 lt:k+1<=l.length
 val:num (l.drop k)=num l
theorem Strip.step {l:List UInt8} {k:Nat} (h:Strip l k) (g:k+1<l.length) (d:l[k].toNat=48):Strip l (k+1):=by
 refine⟨by omega,?_⟩;rw[<- h.val,List.drop_eq_getElem_cons (i:=k) (by omega)];generalize l.drop (k+1)=x;show num x=List.foldl (fun n c=>10*n+(c.toNat-48)) (10*0+(l[k].toNat-48)) x;rw[d];rfl
end
section
open Go.RowKit
end
section
open Go.RowKit
end
section
open Go.RowKit
end
section
open Go.RowKit
end
section
open Go.RowKit
end
section
open Go.RowKit
end
section
open Go.RowKit
end
section
open Go.RowKit
end
end Go.Proofs.YteappjogmnogcaaGreatDoor
