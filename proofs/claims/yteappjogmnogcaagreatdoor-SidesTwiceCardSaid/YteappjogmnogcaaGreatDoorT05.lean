/- Parts of a proof: MS2 SemF SemH SemG MX MR1 MR2 MR3 MR4. -/
import Derived.Test.YteappjogmnogcaaGreatDoorT04
import Derived.Test.YteappjogmnogcaaGreatDoorT00
import Derived.LoopN
import Derived.Test.YteappjogmnogcaaGreatDoorT02
import Derived.Test.YteappjogmnogcaaGreatDoorT03
import Derived.Deep.QuietTactic
import Derived.BigQuiet
import Derived.Laws.Concat
namespace Go.Proofs.YteappjogmnogcaaGreatDoor
set_option maxRecDepth 100000
set_option linter.unusedSimpArgs false
set_option linter.unusedVariables false
set_option linter.unusedSectionVars false
set_option maxHeartbeats 16000000
open Go Tryz
section
open Go.RowKit
theorem z5y:txt 0=⟨#[48]⟩:=((z2w y0m).1).symm
theorem y2t:fitQ 0:=(z2w y0m).2
theorem y8g:prs ⟨#[49]⟩=some 1:=by
 have:txt 1=⟨#[49]⟩:=by unfold txt txtL;rw[show negQ 1=false from rfl,show (1:Rat).num.natAbs=1 from rfl,show (1:Rat).den=1 from rfl,z5x];rfl
 rw[<- this];exact z2k (by unfold fitQ;rw[show (1:Rat).num.natAbs=1 from rfl,show (1:Rat).den=1 from rfl,z5x];decide)
theorem y4p:txt 1=⟨#[49]⟩:=((z2w y8g).1).symm
theorem x3b:fitQ 1:=(z2w y8g).2
def natB (a:ByteArray):Bool:=match prs a with|some q=>decide (0<=q)|none=>false
def posB (a:ByteArray):Bool:=match prs a with|some q=>decide (0<q)|none=>false
theorem y6g {a:ByteArray} {q:Rat} (h:prs a=some q):y4v a ⟨#[48]⟩=cmpQ q 0:=by unfold y4v;rw[h,y0m]
theorem v2j (a:ByteArray):z0s 1 a=(prs a).isSome:=by
 unfold z0s rdV;by_cases c:a=infS
 ·rw[if_pos c,c,y8d];rfl
 rw[if_neg c];by_cases d:a=lowS
 ·rw[if_pos d,d,y4a];rfl
 rw[if_neg d];cases prs a with
 | none=>rfl
 | some q=>simp[wtV]
theorem y6n {k:Int} (g:k=2\/k=3) (a:ByteArray):z0s k a=posB a:=by
 unfold z0s rdV posB;by_cases c:a=infS
 ·rw[if_pos c,c,y8d];rfl
 rw[if_neg c];by_cases d:a=lowS
 ·rw[if_pos d,d,y4a];rfl
 rw[if_neg d];cases prs a with
 | none=>rfl
 | some q =>
  show decide (wtV k (.fin q))=decide (0<q);rw[decide_eq_decide]
  constructor
  ·intro h;rcases h with h|h
   ·omega
   exact h.2
  intro h;exact .inr ⟨g,h⟩
theorem y1u {k:Int} (c:k=1\/k=2\/k=3):z0p k infS=true:=by
 have:vprs k infS=some .inf:=z3d.2 ⟨by simp[rdV],by unfold okV;omega⟩;unfold z0p;rw[this];rfl
theorem x2h:z0p 1 lowS=true:=by
 have:vprs 1 lowS=some .low:=z3d.2 ⟨by simp[rdV,show lowS≠infS by decide],rfl⟩;unfold z0p;rw[this];rfl
theorem v5h {a:ByteArray} (c:a≠infS) (d:a≠lowS):z0p 1 a=(prs a).isSome:=by
 unfold z0p vprs rdV;rw[if_neg c,if_neg d];cases prs a with
 | none=>rfl
 | some q=>simp[okV]
theorem y9e {k:Int} (g:k=2\/k=3) {a:ByteArray} (d:a≠infS):z0p k a=natB a:=by
 unfold z0p vprs rdV natB;rw[if_neg d];by_cases c:a=lowS
 ·rw[if_pos c,c,y4a];have:decide (okV k .low)=false:=by rw[decide_eq_false_iff_not];intro h;change k=1 at h;omega
  simp[Option.filter,this]
 rw[if_neg c];cases prs a with
 | none=>rfl
 | some q =>
  have:decide (okV k (.fin q))=decide (0<=q):=by
   rw[decide_eq_decide]
   constructor
   ·intro h;rcases h with h|h
    ·omega
    exact h.2
   intro h;exact .inr ⟨g,h⟩
  simp only[Option.map_some,Option.filter,this];cases decide (0<=q)<;>rfl
def BoolE (b:Bool) (w:World) (e:Ending) (w':World):Prop:=e=.returned (.bool b)/\Below w.heap.size w w'
theorem y2b (a:ByteArray) (w:World) (c:a.size<=9223372036854775807) (d:Tab w):Calls prog 160 #[.string a] w (BoolE (prs a).isSome w):=z8r a w c d
theorem y4t (a:ByteArray) (w:World) (j:a.size<=9223372036854775807) (i:Tab w):Calls prog 164 #[.string a] w (BoolE (natB a) w):=by
 have c1:=z8r a w j i;have c2:=fun m (h:Below w.heap.size w m)=>y7r a ⟨#[48]⟩ m j (by decide) (i.below h nlr);cases d:prs a with
 | none =>
  have g:natB a=false:=by unfold natB;rw[d]
  rw[g];rw[d] at c1;simp only[Option.isSome] at c1;have l:=qh c1;clear c1 c2 d g j i
  go_enter func164,ntmps164
  go_wp2_with fail
  refine nxa l.out fun s c=>?_;go_wp2;go_ret;exact⟨rfl,c.out⟩
 | some q =>
  have g:natB a=decide (0<=q):=by unfold natB;rw[d]
  rw[y6g d] at c2;rw[g];rw[d] at c1;simp only[Option.isSome] at c1;have l:=qh c1;clear c1;have o:(decide (0<=q)=decide (0<=cmpQ q 0)):=by
   rcases z1j q 0 with ⟨h,e⟩|⟨h,e⟩|⟨h,e⟩<;>rw[e]
   ·rw[decide_eq_decide];simp;exact Rat.not_le.2 h
   ·subst h;rfl
   rw[decide_eq_decide];simp;exact Rat.le_of_lt h
  rw[o];have p:cmpQ q 0=-1\/cmpQ q 0=0\/cmpQ q 0=1:=by rcases z1j q 0 with ⟨h,e⟩|⟨h,e⟩|⟨h,e⟩<;>simp[e]
  generalize cmpQ q 0=z at *;have u:=qh c2;clear c2 d g j i o
  rcases p with rfl|rfl|rfl
  all_goals
   go_enter func164,ntmps164
   go_wp2_with fail
   refine nxa l.out fun s c=>?_
   go_wp2_with fail
   refine nxb (u.out _ c.out) c fun A k=>?_;go_wp2;go_ret;exact⟨rfl,k.out⟩
theorem y2d (a:ByteArray) (w:World) (j:a.size<=9223372036854775807) (i:Tab w):Calls prog 165 #[.string a] w (BoolE (posB a) w):=by
 have c1:=z8r a w j i;have c2:=fun m (h:Below w.heap.size w m)=>y7r a ⟨#[48]⟩ m j (by decide) (i.below h nlr);cases d:prs a with
 | none =>
  have g:posB a=false:=by unfold posB;rw[d]
  rw[g];rw[d] at c1;simp only[Option.isSome] at c1;have l:=qh c1;clear c1 c2 d g j i
  go_enter func165,ntmps165
  go_wp2_with fail
  refine nxa l.out fun s c=>?_;go_wp2;go_ret;exact⟨rfl,c.out⟩
 | some q =>
  have g:posB a=decide (0<q):=by unfold posB;rw[d]
  rw[y6g d] at c2;rw[g];rw[d] at c1;simp only[Option.isSome] at c1;have l:=qh c1;clear c1;have o:(decide (0<q)=decide (0<cmpQ q 0)):=by
   rcases z1j q 0 with ⟨h,e⟩|⟨h,e⟩|⟨h,e⟩<;>rw[e]
   ·rw[decide_eq_decide];simp;exact Rat.not_lt.2 (Rat.le_of_lt h)
   ·subst h;rfl
   rw[decide_eq_decide];simp;exact h
  rw[o];have p:cmpQ q 0=-1\/cmpQ q 0=0\/cmpQ q 0=1:=by rcases z1j q 0 with ⟨h,e⟩|⟨h,e⟩|⟨h,e⟩<;>simp[e]
  generalize cmpQ q 0=z at *;have u:=qh c2;clear c2 d g j i o
  rcases p with rfl|rfl|rfl
  all_goals
   go_enter func165,ntmps165
   go_wp2_with fail
   refine nxa l.out fun s c=>?_
   go_wp2_with fail
   refine nxb (u.out _ c.out) c fun A k=>?_;go_wp2;go_ret;exact⟨rfl,k.out⟩
theorem z5h (a:ByteArray) (w:World) (m:a.size<=9223372036854775807) (o:Tab w):Calls prog 98 #[.agg ring1,.string a] w (BoolE (z0p 1 a) w):=by
 have j:Below w.heap.size w (w.alloc (.cells ring1 123)):=blr.alloc nlr _;have c1:=fun p (h:Below w.heap.size w p)=>y2b a p m (o.below h nlr);have u:=qh c1;clear c1 m o;have c:=qh j;clear j;unfold ring1 at c ⊢;by_cases d:a=infS
 ·have s:(a.toList==[105,110,102])=true:=by rw[d,z2v];rfl
  have i:z0p 1 a=true:=by rw[d];exact y1u (by omega)
  rw[i];clear i d
  go_enter func98,ntmps98
  go_wp2;go_ret;exact⟨rfl,c.out⟩
 have s:(a.toList==[105,110,102])=false:=z4i (l:=[105,110,102]) d;by_cases g:a=lowS
 ·have z:(a.toList==[45,105,110,102])=true:=by rw[g,z5u];rfl
  have i:z0p 1 a=true:=by rw[g];exact x2h
  rw[i];clear i d g
  go_enter func98,ntmps98
  go_wp2;go_ret;exact⟨rfl,c.out⟩
 have z:(a.toList==[45,105,110,102])=false:=z4i (l:=[45,105,110,102]) g;rw[v5h d g];clear d g
 go_enter func98,ntmps98
 go_wp2_with fail
 refine nxb (u.out _ c.out) c fun A k=>?_;go_wp2;go_ret;exact⟨rfl,k.out⟩
theorem z5g (a:ByteArray) (w:World) (j:a.size<=9223372036854775807) (m:Tab w):Calls prog 98 #[.agg ring2,.string a] w (BoolE (z0p 2 a) w):=by
 have g:Below w.heap.size w (w.alloc (.cells ring2 123)):=blr.alloc nlr _;have c1:=fun o (h:Below w.heap.size w o)=>y4t a o j (m.below h nlr);have s:=qh c1;clear c1 j m;have c:=qh g;clear g;unfold ring2 at c ⊢;by_cases d:a=infS
 ·have p:(a.toList==[105,110,102])=true:=by rw[d,z2v];rfl
  have k:z0p 2 a=true:=by rw[d];exact y1u (by omega)
  rw[k];clear k d
  go_enter func98,ntmps98
  go_wp2;go_ret;exact⟨rfl,c.out⟩
 have p:(a.toList==[105,110,102])=false:=z4i (l:=[105,110,102]) d;rw[y9e (by omega) d];clear d;cases z:(a.toList==[45,105,110,102])
 all_goals
  go_enter func98,ntmps98
  go_wp2_with fail
  refine nxb (s.out _ c.out) c fun u i=>?_;go_wp2;go_ret;exact⟨rfl,i.out⟩
theorem z5i (a:ByteArray) (w:World) (j:a.size<=9223372036854775807) (m:Tab w):Calls prog 98 #[.agg ring3,.string a] w (BoolE (z0p 3 a) w):=by
 have g:Below w.heap.size w (w.alloc (.cells ring3 123)):=blr.alloc nlr _;have c1:=fun o (h:Below w.heap.size w o)=>y4t a o j (m.below h nlr);have s:=qh c1;clear c1 j m;have c:=qh g;clear g;unfold ring3 at c ⊢;by_cases d:a=infS
 ·have p:(a.toList==[105,110,102])=true:=by rw[d,z2v];rfl
  have k:z0p 3 a=true:=by rw[d];exact y1u (by omega)
  rw[k];clear k d
  go_enter func98,ntmps98
  go_wp2;go_ret;exact⟨rfl,c.out⟩
 have p:(a.toList==[105,110,102])=false:=z4i (l:=[105,110,102]) d;rw[y9e (by omega) d];clear d;cases z:(a.toList==[45,105,110,102])
 all_goals
  go_enter func98,ntmps98
  go_wp2_with fail
  refine nxb (s.out _ c.out) c fun u i=>?_;go_wp2;go_ret;exact⟨rfl,i.out⟩
theorem cell_kept {w g:World} {c:Array Value} {t:TypeId} (h:Below (w.alloc (.cells c t)).heap.size (w.alloc (.cells c t)) g) (i:Nat):g.cell? ⟨w.heap.size,i,none⟩=c[i]?:=by
 have d:w.heap.size<(w.alloc (.cells c t)).heap.size:=by simp
 exact(h.cell (p:=⟨w.heap.size,i,none⟩) d).trans (cell_of_row _ _ i c t (0,0) (heap_alloc_last w _))
theorem x2i (v u:V) (w:World) (s:fitV v) (k:fitV u) (m:Tab w):Calls prog 157 #[.agg ring1,.string (vtxt v),.string (vtxt u)] w (PairEnd (limV (z1k 1 v u)) w):=by
 have i:Below w.heap.size w (w.alloc (.cells ring1 123)):=blr.alloc nlr _;have c1:=fun o (h:Below w.heap.size w o)=>z4r v u o s k (m.below h nlr);have B:z1k 1 v u=if 0<cmpV v u then u else v:=by unfold z1k;rfl
 rw[B];have p:limV (if 0<cmpV v u then u else v)=(if 0<cmpV v u then vtxt u else vtxt v,0):=by split<;>(rw[y2q];assumption)
 rw[p];have C:=z8m v u;generalize cmpV v u=z at *;have j:=qh c1;clear c1 m B p;have c:=qh i;clear i;unfold ring1 at c ⊢;generalize vtxt v=a at *;generalize vtxt u=b at *;clear s k
 rcases C with rfl|rfl|rfl
 ·change Calls _ _ _ _ (PairEnd (a,0) w)
  go_enter func157,ntmps157
  go_wp2_with fail
  refine(j.out _ c.out).mono ?_;rintro e A ⟨rfl,hb⟩;have g:=qh hb;have d:=qh (z0a c.out hb);clear hb;have l:=cell_kept g.out 2;go_wp2;go_ret2;exact⟨rfl,d.out⟩
 ·change Calls _ _ _ _ (PairEnd (a,0) w)
  go_enter func157,ntmps157
  go_wp2_with fail
  refine(j.out _ c.out).mono ?_;rintro e A ⟨rfl,hb⟩;have g:=qh hb;have d:=qh (z0a c.out hb);clear hb;have l:=cell_kept g.out 2;go_wp2;go_ret2;exact⟨rfl,d.out⟩
 change Calls _ _ _ _ (PairEnd (b,0) w)
 go_enter func157,ntmps157
 go_wp2_with fail
 refine(j.out _ c.out).mono ?_;rintro e A ⟨rfl,hb⟩;have g:=qh hb;have d:=qh (z0a c.out hb);clear hb;have l:=cell_kept g.out 2;go_wp2;go_ret2;exact⟨rfl,d.out⟩
theorem x3a (v u:V) (w:World) (s:fitV v) (k:fitV u) (m:Tab w):Calls prog 157 #[.agg ring3,.string (vtxt v),.string (vtxt u)] w (PairEnd (limV (z1k 3 v u)) w):=by
 have i:Below w.heap.size w (w.alloc (.cells ring3 123)):=blr.alloc nlr _;have c1:=fun o (h:Below w.heap.size w o)=>z4r v u o s k (m.below h nlr);have B:z1k 3 v u=if cmpV v u<0 then u else v:=by unfold z1k;rfl
 rw[B];have p:limV (if cmpV v u<0 then u else v)=(if cmpV v u<0 then vtxt u else vtxt v,0):=by split<;>(rw[y2q];assumption)
 rw[p];have C:=z8m v u;generalize cmpV v u=z at *;have j:=qh c1;clear c1 m B p;have c:=qh i;clear i;unfold ring3 at c ⊢;generalize vtxt v=a at *;generalize vtxt u=b at *;clear s k
 rcases C with rfl|rfl|rfl
 ·change Calls _ _ _ _ (PairEnd (b,0) w)
  go_enter func157,ntmps157
  go_wp2_with fail
  refine(j.out _ c.out).mono ?_;rintro e A ⟨rfl,hb⟩;have g:=qh hb;have d:=qh (z0a c.out hb);clear hb;have l:=cell_kept g.out 2;go_wp2;go_ret2;exact⟨rfl,d.out⟩
 ·change Calls _ _ _ _ (PairEnd (a,0) w)
  go_enter func157,ntmps157
  go_wp2_with fail
  refine(j.out _ c.out).mono ?_;rintro e A ⟨rfl,hb⟩;have g:=qh hb;have d:=qh (z0a c.out hb);clear hb;have l:=cell_kept g.out 2;go_wp2;go_ret2;exact⟨rfl,d.out⟩
 change Calls _ _ _ _ (PairEnd (a,0) w)
 go_enter func157,ntmps157
 go_wp2_with fail
 refine(j.out _ c.out).mono ?_;rintro e A ⟨rfl,hb⟩;have g:=qh hb;have d:=qh (z0a c.out hb);clear hb;have l:=cell_kept g.out 2;go_wp2;go_ret2;exact⟨rfl,d.out⟩
theorem v9q (v u:V) (w:World) (j:fitV v) (i:fitV u) (lv:v≠.low) (lu:u≠.low) (k:Tab w):Calls prog 161 #[.agg ring2,.string (vtxt v),.string (vtxt u)] w (PairEnd (limV (z1k 2 v u)) w):=by
 have d:Below w.heap.size w (w.alloc (.cells ring2 123)):=blr.alloc nlr _;rw[z6c];cases v with
 | low=>exact absurd rfl lv
 | inf =>
  have g:limV (addV .inf u)=(infS,0):=by cases u<;>rfl
  rw[g];have p:((vtxt .inf).toList==[105,110,102])=true:=by show (infS.toList==_)=_;rw[z2v];rfl
  generalize vtxt .inf=a at *;generalize vtxt u=b at *;have c:=qh d;clear d j i lv lu k g;unfold ring2 at c ⊢;unfold infS
  go_enter func161,ntmps161
  go_wp2;go_ret2;exact⟨rfl,c.out⟩
 | fin x =>
  have p:((vtxt (.fin x)).toList==[105,110,102])=false:=z8x j;cases u with
  | low=>exact absurd rfl lu
  | inf =>
   have g:limV (addV (.fin x) .inf)=(infS,0):=rfl;rw[g];have z:((vtxt .inf).toList==[105,110,102])=true:=by show (infS.toList==_)=_;rw[z2v];rfl
   generalize vtxt .inf=b at *;generalize vtxt (.fin x)=a at *;have c:=qh d;clear d j i lv lu k g;unfold ring2 at c ⊢;unfold infS
   go_enter func161,ntmps161
   go_wp2;go_ret2;exact⟨rfl,c.out⟩
  | fin y =>
   have z:((vtxt (.fin y)).toList==[105,110,102])=false:=z8x i;have o:=z2x j;have l:=z2x i;have c1:=fun s (h:Below w.heap.size w s)=>x5d (txt x) (txt y) s (by omega) (by omega) (k.below h nlr);have g:x0b (txt x) (txt y)=limV (addV (.fin x) (.fin y)):=by unfold x0b;rw[z2k j,z2k i];rfl
   rw[g] at c1;change Calls _ _ #[_,.string (txt x),.string (txt y)] _ _;change ((txt x).toList==_)=_ at p;change ((txt y).toList==_)=_ at z;generalize limV (addV (.fin x) (.fin y))=lr at *;obtain⟨ls,B⟩:=lr;generalize txt x=a at *;generalize txt y=b at *;have A:=qh c1;clear c1;have c:=qh d;clear d j i lv lu k g o l;unfold ring2 at c ⊢
   go_enter func161,ntmps161
   go_wp2_with fail
   refine nxb (A.out _ c.out) c fun C m=>?_;go_wp2;go_ret2;exact⟨rfl,m.out⟩
theorem x1i (v:V) (w:World) (h:fitV v) (j:Tab w):Calls prog 159 #[.string (vtxt v)] w (PairEnd (limV (z1x 1 v)) w):=by
 have c1:=z4r v (.fin 0) w h y2t j;have k:z1x 1 v=if 0<=cmpV v (.fin 0) then .fin 0 else .low:=rfl
 have g:limV (z1x 1 v)=(if 0<=cmpV v (.fin 0) then ⟨#[48]⟩ else lowS,0):=by
  rw[k];split
  ·exact(z8w y2t).trans (by rw[z5y])
  rfl
 rw[g];change Calls _ _ #[_,.string (txt 0)] _ _ at c1;rw[z5y] at c1;have l:=z8m v (.fin 0);generalize cmpV v (.fin 0)=z at *;have d:=qh c1;clear c1 j k g;generalize vtxt v=a at *;clear h;unfold lowS
 rcases l with rfl|rfl|rfl
 ·change Calls _ _ _ _ (PairEnd (⟨#[45,105,110,102]⟩,0) w)
  go_enter func159,ntmps159
  go_wp2_with fail
  refine nxa d.out fun i c=>?_;go_wp2;go_ret2;exact⟨rfl,c.out⟩
 ·change Calls _ _ _ _ (PairEnd (⟨#[48]⟩,0) w)
  go_enter func159,ntmps159
  go_wp2_with fail
  refine nxa d.out fun i c=>?_;go_wp2;go_ret2;exact⟨rfl,c.out⟩
 change Calls _ _ _ _ (PairEnd (⟨#[48]⟩,0) w)
 go_enter func159,ntmps159
 go_wp2_with fail
 refine nxa d.out fun i c=>?_;go_wp2;go_ret2;exact⟨rfl,c.out⟩
theorem y9i (v:V) (w:World) (h:fitV v) (j:Tab w):Calls prog 166 #[.string (vtxt v)] w (PairEnd (limV (z1x 3 v)) w):=by
 have c1:=z4r v (.fin 1) w h x3b j;have k:z1x 3 v=if cmpV v (.fin 1)<=0 then .fin 1 else .inf:=rfl
 have g:limV (z1x 3 v)=(if cmpV v (.fin 1)<=0 then ⟨#[49]⟩ else infS,0):=by
  rw[k];split
  ·exact(z8w x3b).trans (by rw[y4p])
  rfl
 rw[g];change Calls _ _ #[_,.string (txt 1)] _ _ at c1;rw[y4p] at c1;have l:=z8m v (.fin 1);generalize cmpV v (.fin 1)=z at *;have d:=qh c1;clear c1 j k g;generalize vtxt v=a at *;clear h;unfold infS
 rcases l with rfl|rfl|rfl
 ·change Calls _ _ _ _ (PairEnd (⟨#[49]⟩,0) w)
  go_enter func166,ntmps166
  go_wp2_with fail
  refine nxa d.out fun i c=>?_;go_wp2;go_ret2;exact⟨rfl,c.out⟩
 ·change Calls _ _ _ _ (PairEnd (⟨#[49]⟩,0) w)
  go_enter func166,ntmps166
  go_wp2_with fail
  refine nxa d.out fun i c=>?_;go_wp2;go_ret2;exact⟨rfl,c.out⟩
 change Calls _ _ _ _ (PairEnd (⟨#[105,110,102]⟩,0) w)
 go_enter func166,ntmps166
 go_wp2_with fail
 refine nxa d.out fun i c=>?_;go_wp2;go_ret2;exact⟨rfl,c.out⟩
theorem v4v {x:Rat} (j:fitQ x) (h:0<=x) (i:x<1):fitQ (1-x):=by
 have c:=x8f.1 j;rw[x8f,Rat.sub_def'];obtain⟨l,g⟩:=y7s (n:=(1:Rat).num*x.den-x.num*(1:Rat).den) (d:=(1:Rat).den*x.den) (Nat.mul_ne_zero (by decide) x.den_nz);have p:0<=x.num:=Rat.num_nonneg.2 h;have o:x.num<x.den:=by
  have:=(Rat.lt_iff x 1).1 i
  simpa using this
 have k:((1:Rat).num*x.den-x.num*(1:Rat).den).natAbs<=x.den:=by
  rw[Rat.one_num,Rat.one_den];omega
 have m:(1:Rat).den*x.den=x.den:=by rw[Rat.one_den,Nat.one_mul]
 exact⟨Nat.lt_of_le_of_lt (Nat.le_trans l k) c.2,Nat.lt_of_le_of_lt (Nat.le_trans g (Nat.le_of_eq m)) c.2⟩
theorem x1g (v:V) (w:World) (i:fitV v) (d:okV 2 v) (j:Tab w):Calls prog 163 #[.string (vtxt v)] w (PairEnd (limV (z1x 2 v)) w):=by
 have c1:=z4r v (.fin 1) w i x3b j;change Calls _ _ #[_,.string (txt 1)] _ _ at c1;rw[y4p] at c1
 rcases z2h d (by decide) with rfl|⟨x,rfl,F⟩
 ·have g:limV (z1x 2 .inf)=(infS,0):=rfl;have A:cmpV .inf (.fin 1)=1:=rfl;rw[g];rw[A] at c1;have m:=qh c1;clear c1 j i d g A;generalize vtxt .inf=a at *;unfold infS
  go_enter func163,ntmps163
  go_wp2_with fail
  refine nxa m.out fun D c=>?_;go_wp2;go_ret2;exact⟨rfl,c.out⟩
 have o:z1x 2 (.fin x)=if 0<=cmpQ x 1 then .inf else .fin (1 / (1-x)):=rfl
 have u:cmpV (.fin x) (.fin 1)=cmpQ x 1:=rfl;rw[u] at c1
 rcases z1j x 1 with ⟨h,e⟩|h
 ·have hf:=v4v i F h;have C:1-x≠0:=Rat.ne_of_gt ((Rat.lt_iff_sub_pos x 1).1 h);have g:limV (z1x 2 (.fin x))=limR (1 / (1-x)):=by rw[o,e];rfl
  have I:=z2x i;have H:=z2x hf;have c2:=fun k (h:Below w.heap.size w k)=>v4a ⟨#[49]⟩ (txt x) k (by decide) (by omega) (j.below h nlr);have c3:=fun k (h:Below w.heap.size w k)=>v7h ⟨#[49]⟩ (txt (1-x)) k (by decide) (by omega) (j.below h nlr);have E:v0d ⟨#[49]⟩ (txt x)=(txt (1-x),0):=by unfold v0d;rw[y8g,z2k i];exact z8w hf
  have B:y5i ⟨#[49]⟩ (txt (1-x))=limR (1 / (1-x)):=by unfold y5i;rw[y8g,z2k hf];exact if_neg C
  rw[E] at c2;rw[B] at c3;rw[e] at c1;rw[g];change Calls _ _ #[.string (txt x),_] _ _ at c1;change Calls _ _ #[.string (txt x)] _ _;generalize limR (1 / (1-x))=lr at *;obtain⟨ls,L⟩:=lr;generalize txt (1-x)=b at *;generalize txt x=a at *;have m:=qh c1;clear c1;have J:=qh c2;clear c2;have G:=qh c3;clear c3 j i d o u h e hf C g I H E B
  go_enter func163,ntmps163
  go_wp2_with fail
  refine nxa m.out fun D c=>?_
  go_wp2_with fail
  refine nxb (J.out _ c.out) c fun K l=>?_
  go_wp2_with fail
  refine nxb (G.out _ l.out) l fun N s=>?_;go_wp2;go_ret2;exact⟨rfl,s.out⟩
 have p:0<=cmpQ x 1:=by rcases h with ⟨_,e⟩|⟨_,e⟩<;>rw[e]<;>decide
 have g:limV (z1x 2 (.fin x))=(infS,0):=by rw[o,if_pos p];rfl
 rw[g];generalize cmpQ x 1=z at *;generalize vtxt (.fin x)=a at *;have m:=qh c1;clear c1 j i d o u h g;unfold infS
 go_enter func163,ntmps163
 go_wp2_with fail
 refine nxa m.out fun D c=>?_;go_wp2;go_ret2;exact⟨rfl,c.out⟩
end
section
open Go.RowKit
theorem v9w {k:Int} (c:k<1\/3<k) (a:ByteArray):vprs k a=none:=by
 cases h:vprs k a with
 | none=>rfl
 | some v=>have:=z4a (z3d.1 h).2;omega
theorem y0e {k:Int} (c:k<1\/3<k) (a:ByteArray):z0p k a=false:=by unfold z0p;rw[v9w c];rfl
theorem v0k {k:Int} {v:V} (h:wtV k v):k=1\/k=2\/k=3:=by cases v<;>simp only[wtV] at h<;>omega
theorem x6b {k:Int} (c:k<1\/3<k) (a:ByteArray):z0s k a=false:=by
 unfold z0s;cases rdV a with
 | none=>rfl
 | some v=>show decide (wtV k v)=false;rw[decide_eq_false_iff_not];intro h;have:=v0k h;omega
theorem x8i {k:Int} (c:k<1\/3<k):z3t k=false:=by unfold z3t;rw[Bool.and_eq_false_iff];simp;omega
theorem z2y (k:Int):k=1\/k=2\/k=3\/(k<1\/3<k):=by omega
theorem z3h {k:Int} {a:ByteArray} (h:z0p k a=true):∃ v,vprs k a=some v/\rdV a=some v/\okV k v/\a=vtxt v/\fitV v:=by
 unfold z0p at h;obtain⟨v,c⟩:=Option.isSome_iff_exists.1 h;obtain⟨d,g⟩:=z3d.1 c;exact⟨v,c,d,g,y2y d⟩
theorem y4r {k:Int} {a:ByteArray} (h:z0p k a=false):vprs k a=none:=by
 unfold z0p at h;cases c:vprs k a with
 | none=>rfl
 | some v=>rw[c] at h;simp at h
theorem y2r {k:Int} {a b:ByteArray} (h:z0p k a=false):z1i k a b=(⟨#[]⟩,1):=by unfold z1i;rw[y4r h];rfl
theorem y8a {k:Int} {a b:ByteArray} (h:z0p k b=false):z1i k a b=(⟨#[]⟩,1):=by unfold z1i;rw[y4r h];cases vprs k a<;>rfl
theorem y0h {k:Int} {a b:ByteArray} (h:z0p k a=false):z0n k a b=(⟨#[]⟩,1):=by unfold z0n;rw[y4r h];rfl
theorem y3p {k:Int} {a b:ByteArray} (h:z0p k b=false):z0n k a b=(⟨#[]⟩,1):=by unfold z0n;rw[y4r h];cases vprs k a<;>rfl
theorem y7d {k:Int} {a:ByteArray} (h:z0p k a=false):z5k k a=(⟨#[]⟩,1):=by unfold z5k;rw[y4r h];rfl
theorem z3n {w c:World} (h:Below (w.alloc (.cells #[.string ⟨#[105,110,102]⟩,.string ⟨#[48]⟩,.bool true,fv 157,fv 158,fv 159,fv 160,fv 160] 123)).heap.size (w.alloc (.cells #[.string ⟨#[105,110,102]⟩,.string ⟨#[48]⟩,.bool true,fv 157,fv 158,fv 159,fv 160,fv 160] 123)) c) :
  c.cell? ⟨w.heap.size,0,none⟩=some (.string ⟨#[105,110,102]⟩)/\c.cell? ⟨w.heap.size,1,none⟩=some (.string ⟨#[48]⟩)/\c.cell? ⟨w.heap.size,2,none⟩=some (.bool true)/\c.cell? ⟨w.heap.size,3,none⟩=some (fv 157)/\c.cell? ⟨w.heap.size,4,none⟩=some (fv 158)/\c.cell? ⟨w.heap.size,5,none⟩=some (fv 159)/\c.cell? ⟨w.heap.size,6,none⟩=some (fv 160)/\c.cell? ⟨w.heap.size,7,none⟩=some (fv 160) :=
 ⟨(cell_kept h 0).trans rfl,(cell_kept h 1).trans rfl,(cell_kept h 2).trans rfl,(cell_kept h 3).trans rfl,(cell_kept h 4).trans rfl,(cell_kept h 5).trans rfl,(cell_kept h 6).trans rfl,(cell_kept h 7).trans rfl⟩
theorem z3i {w c:World} (h:Below (w.alloc (.cells #[.string ⟨#[48]⟩,.string ⟨#[49]⟩,.bool false,fv 161,fv 162,fv 163,fv 164,fv 165] 123)).heap.size (w.alloc (.cells #[.string ⟨#[48]⟩,.string ⟨#[49]⟩,.bool false,fv 161,fv 162,fv 163,fv 164,fv 165] 123)) c) :
  c.cell? ⟨w.heap.size,0,none⟩=some (.string ⟨#[48]⟩)/\c.cell? ⟨w.heap.size,1,none⟩=some (.string ⟨#[49]⟩)/\c.cell? ⟨w.heap.size,2,none⟩=some (.bool false)/\c.cell? ⟨w.heap.size,3,none⟩=some (fv 161)/\c.cell? ⟨w.heap.size,4,none⟩=some (fv 162)/\c.cell? ⟨w.heap.size,5,none⟩=some (fv 163)/\c.cell? ⟨w.heap.size,6,none⟩=some (fv 164)/\c.cell? ⟨w.heap.size,7,none⟩=some (fv 165) :=
 ⟨(cell_kept h 0).trans rfl,(cell_kept h 1).trans rfl,(cell_kept h 2).trans rfl,(cell_kept h 3).trans rfl,(cell_kept h 4).trans rfl,(cell_kept h 5).trans rfl,(cell_kept h 6).trans rfl,(cell_kept h 7).trans rfl⟩
theorem z3j {w c:World} (h:Below (w.alloc (.cells #[.string ⟨#[48]⟩,.string ⟨#[49]⟩,.bool false,fv 157,fv 162,fv 166,fv 164,fv 165] 123)).heap.size (w.alloc (.cells #[.string ⟨#[48]⟩,.string ⟨#[49]⟩,.bool false,fv 157,fv 162,fv 166,fv 164,fv 165] 123)) c) :
  c.cell? ⟨w.heap.size,0,none⟩=some (.string ⟨#[48]⟩)/\c.cell? ⟨w.heap.size,1,none⟩=some (.string ⟨#[49]⟩)/\c.cell? ⟨w.heap.size,2,none⟩=some (.bool false)/\c.cell? ⟨w.heap.size,3,none⟩=some (fv 157)/\c.cell? ⟨w.heap.size,4,none⟩=some (fv 162)/\c.cell? ⟨w.heap.size,5,none⟩=some (fv 166)/\c.cell? ⟨w.heap.size,6,none⟩=some (fv 164)/\c.cell? ⟨w.heap.size,7,none⟩=some (fv 165) :=
 ⟨(cell_kept h 0).trans rfl,(cell_kept h 1).trans rfl,(cell_kept h 2).trans rfl,(cell_kept h 3).trans rfl,(cell_kept h 4).trans rfl,(cell_kept h 5).trans rfl,(cell_kept h 6).trans rfl,(cell_kept h 7).trans rfl⟩
theorem v4x (a:ByteArray) (w:World) (g:a.size<=9223372036854775807) (i:Tab w):Calls prog 154 #[.int .i64 1,.string a] w (BoolE (z0p 1 a) w):=by
 have c1:=fun j (h:Below w.heap.size w j)=>z5h a j g (i.below h nlr);generalize z0p 1 a=z at *;have c0:=of_1 w;unfold OfEnd at c0;unfold ring1 at *;have k:=qh c0;clear c0;have l:=qh c1;clear c1 g i
 go_enter func154,ntmps154
 go_wp2_with fail
 refine k.out.mono ?_;rintro e o ⟨rfl,hb⟩;have c:=qh (hb.alloc hb.size (.cells ring1 123));clear hb
 go_wp2_with fail
 refine nxb (l.out _ c.out) c fun m d=>?_;go_wp2;go_ret;exact⟨rfl,d.out⟩
theorem v6m (a:ByteArray) (w:World) (g:a.size<=9223372036854775807) (i:Tab w):Calls prog 154 #[.int .i64 2,.string a] w (BoolE (z0p 2 a) w):=by
 have c1:=fun j (h:Below w.heap.size w j)=>z5g a j g (i.below h nlr);generalize z0p 2 a=z at *;have c0:=of_2 w;unfold OfEnd at c0;unfold ring2 at *;have k:=qh c0;clear c0;have l:=qh c1;clear c1 g i
 go_enter func154,ntmps154
 go_wp2_with fail
 refine k.out.mono ?_;rintro e o ⟨rfl,hb⟩;have c:=qh (hb.alloc hb.size (.cells ring2 123));clear hb
 go_wp2_with fail
 refine nxb (l.out _ c.out) c fun m d=>?_;go_wp2;go_ret;exact⟨rfl,d.out⟩
theorem v7d (a:ByteArray) (w:World) (g:a.size<=9223372036854775807) (i:Tab w):Calls prog 154 #[.int .i64 3,.string a] w (BoolE (z0p 3 a) w):=by
 have c1:=fun j (h:Below w.heap.size w j)=>z5i a j g (i.below h nlr);generalize z0p 3 a=z at *;have c0:=of_3 w;unfold OfEnd at c0;unfold ring3 at *;have k:=qh c0;clear c0;have l:=qh c1;clear c1 g i
 go_enter func154,ntmps154
 go_wp2_with fail
 refine k.out.mono ?_;rintro e o ⟨rfl,hb⟩;have c:=qh (hb.alloc hb.size (.cells ring3 123));clear hb
 go_wp2_with fail
 refine nxb (l.out _ c.out) c fun m d=>?_;go_wp2;go_ret;exact⟨rfl,d.out⟩
theorem x9n (k:Int) (a:ByteArray) (w:World) (d:k<1\/3<k):Calls prog 154 #[.int .i64 k,.string a] w (BoolE (z0p k a) w):=by
 rw[y0e d];have c0:=x1t k w d;unfold OfEnd at c0;unfold ring0 at *;have g:=qh c0;clear c0
 go_enter func154,ntmps154
 go_wp2_with fail
 refine g.out.mono ?_;rintro e h ⟨rfl,hb⟩;have c:=qh (hb.alloc hb.size (.cells ring0 123));clear hb;go_wp2;go_ret;exact⟨rfl,c.out⟩
theorem y7k (k:Int) (a:ByteArray) (w:World) (c:a.size<=9223372036854775807) (d:Tab w):Calls prog 154 #[.int .i64 k,.string a] w (BoolE (z0p k a) w):=by
 rcases z2y k with rfl|rfl|rfl|g
 ·exact v4x a w c d
 ·exact v6m a w c d
 ·exact v7d a w c d
 exact x9n k a w g
theorem x5u (a:ByteArray) (w:World) (c:a.size<=9223372036854775807) (d:Tab w):Calls prog 160 #[.string a] w (BoolE (z0s 1 a) w):=by
 rw[v2j];exact y2b a w c d
theorem v1u (a:ByteArray) (w:World) (g:a.size<=9223372036854775807) (i:Tab w):Calls prog 75 #[.int .i64 1,.string a] w (BoolE (z0s 1 a) w):=by
 have c1:=fun j (h:Below w.heap.size w j)=>x5u a j g (i.below h nlr);generalize z0s 1 a=z at *;have c0:=of_1 w;unfold OfEnd at c0;unfold ring1 at *;have k:=qh c0;clear c0;have l:=qh c1;clear c1 g i
 go_enter func75,ntmps75
 go_wp2_with fail
 refine k.out.mono ?_;rintro e o ⟨rfl,hb⟩;have c:=qh (hb.alloc hb.size (.cells ring1 123));clear hb
 go_wp2_with fail
 refine nxb (l.out _ c.out) c fun m d=>?_;go_wp2;go_ret;exact⟨rfl,d.out⟩
theorem x6t (a:ByteArray) (w:World) (c:a.size<=9223372036854775807) (d:Tab w):Calls prog 165 #[.string a] w (BoolE (z0s 2 a) w):=by
 rw[y6n (k:=2) (by omega)];exact y2d a w c d
theorem x8k (a:ByteArray) (w:World) (g:a.size<=9223372036854775807) (i:Tab w):Calls prog 75 #[.int .i64 2,.string a] w (BoolE (z0s 2 a) w):=by
 have c1:=fun j (h:Below w.heap.size w j)=>x6t a j g (i.below h nlr);generalize z0s 2 a=z at *;have c0:=of_2 w;unfold OfEnd at c0;unfold ring2 at *;have k:=qh c0;clear c0;have l:=qh c1;clear c1 g i
 go_enter func75,ntmps75
 go_wp2_with fail
 refine k.out.mono ?_;rintro e o ⟨rfl,hb⟩;have c:=qh (hb.alloc hb.size (.cells ring2 123));clear hb
 go_wp2_with fail
 refine nxb (l.out _ c.out) c fun m d=>?_;go_wp2;go_ret;exact⟨rfl,d.out⟩
theorem x5m (a:ByteArray) (w:World) (c:a.size<=9223372036854775807) (d:Tab w):Calls prog 165 #[.string a] w (BoolE (z0s 3 a) w):=by
 rw[y6n (k:=3) (by omega)];exact y2d a w c d
theorem x7p (a:ByteArray) (w:World) (g:a.size<=9223372036854775807) (i:Tab w):Calls prog 75 #[.int .i64 3,.string a] w (BoolE (z0s 3 a) w):=by
 have c1:=fun j (h:Below w.heap.size w j)=>x5m a j g (i.below h nlr);generalize z0s 3 a=z at *;have c0:=of_3 w;unfold OfEnd at c0;unfold ring3 at *;have k:=qh c0;clear c0;have l:=qh c1;clear c1 g i
 go_enter func75,ntmps75
 go_wp2_with fail
 refine k.out.mono ?_;rintro e o ⟨rfl,hb⟩;have c:=qh (hb.alloc hb.size (.cells ring3 123));clear hb
 go_wp2_with fail
 refine nxb (l.out _ c.out) c fun m d=>?_;go_wp2;go_ret;exact⟨rfl,d.out⟩
theorem x5k (k:Int) (a:ByteArray) (w:World) (d:k<1\/3<k):Calls prog 75 #[.int .i64 k,.string a] w (BoolE (z0s k a) w):=by
 rw[x6b d];have c0:=x1t k w d;unfold OfEnd at c0;unfold ring0 at *;have g:=qh c0;clear c0
 go_enter func75,ntmps75
 go_wp2_with fail
 refine g.out.mono ?_;rintro e h ⟨rfl,hb⟩;have c:=qh (hb.alloc hb.size (.cells ring0 123));clear hb;go_wp2;go_ret;exact⟨rfl,c.out⟩
theorem z3b (k:Int) (a:ByteArray) (w:World) (c:a.size<=9223372036854775807) (d:Tab w):Calls prog 75 #[.int .i64 k,.string a] w (BoolE (z0s k a) w):=by
 rcases z2y k with rfl|rfl|rfl|g
 ·exact v1u a w c d
 ·exact x8k a w c d
 ·exact x7p a w c d
 exact x5k k a w g
theorem x8q:z1h 1=⟨#[105,110,102]⟩:=rfl
theorem x6r (w:World):Calls prog 122 #[.int .i64 1] w (StrE (z1h 1) w):=by
 rw[x8q];have c0:=of_1 w;unfold OfEnd at c0;unfold ring1 at *;have d:=qh c0;clear c0
 go_enter func122,ntmps122
 go_wp2_with fail
 refine d.out.mono ?_;rintro e g ⟨rfl,hb⟩;have c:=qh (hb.alloc hb.size (.cells ring1 123));clear hb;go_wp2;go_ret;exact⟨rfl,c.out⟩
theorem x8s:z1h 2=⟨#[48]⟩:=z5y
theorem x6z (w:World):Calls prog 122 #[.int .i64 2] w (StrE (z1h 2) w):=by
 rw[x8s];have c0:=of_2 w;unfold OfEnd at c0;unfold ring2 at *;have d:=qh c0;clear c0
 go_enter func122,ntmps122
 go_wp2_with fail
 refine d.out.mono ?_;rintro e g ⟨rfl,hb⟩;have c:=qh (hb.alloc hb.size (.cells ring2 123));clear hb;go_wp2;go_ret;exact⟨rfl,c.out⟩
theorem v0p:z1h 3=⟨#[48]⟩:=z5y
theorem x5v (w:World):Calls prog 122 #[.int .i64 3] w (StrE (z1h 3) w):=by
 rw[v0p];have c0:=of_3 w;unfold OfEnd at c0;unfold ring3 at *;have d:=qh c0;clear c0
 go_enter func122,ntmps122
 go_wp2_with fail
 refine d.out.mono ?_;rintro e g ⟨rfl,hb⟩;have c:=qh (hb.alloc hb.size (.cells ring3 123));clear hb;go_wp2;go_ret;exact⟨rfl,c.out⟩
theorem x4t {k:Int} (c:k<1\/3<k):z1h k=⟨#[]⟩:=by unfold z1h;rw[x8i c];rfl
theorem x1s (k:Int) (w:World) (d:k<1\/3<k):Calls prog 122 #[.int .i64 k] w (StrE (z1h k) w):=by
 rw[x4t d];have c0:=x1t k w d;unfold OfEnd at c0;unfold ring0 at *;have g:=qh c0;clear c0
 go_enter func122,ntmps122
 go_wp2_with fail
 refine g.out.mono ?_;rintro e h ⟨rfl,hb⟩;have c:=qh (hb.alloc hb.size (.cells ring0 123));clear hb;go_wp2;go_ret;exact⟨rfl,c.out⟩
theorem z4u (k:Int) (w:World):Calls prog 122 #[.int .i64 k] w (StrE (z1h k) w):=by
 rcases z2y k with rfl|rfl|rfl|c
 ·exact x6r w
 ·exact x6z w
 ·exact x5v w
 exact x1s k w c
theorem v8a:oneF 1=⟨#[48]⟩:=z5y
theorem x7m (w:World):Calls prog 60 #[.int .i64 1] w (StrE (oneF 1) w):=by
 rw[v8a];have c0:=of_1 w;unfold OfEnd at c0;unfold ring1 at *;have d:=qh c0;clear c0
 go_enter func60,ntmps60
 go_wp2_with fail
 refine d.out.mono ?_;rintro e g ⟨rfl,hb⟩;have c:=qh (hb.alloc hb.size (.cells ring1 123));clear hb;go_wp2;go_ret;exact⟨rfl,c.out⟩
theorem v7n:oneF 2=⟨#[49]⟩:=y4p
theorem x8a (w:World):Calls prog 60 #[.int .i64 2] w (StrE (oneF 2) w):=by
 rw[v7n];have c0:=of_2 w;unfold OfEnd at c0;unfold ring2 at *;have d:=qh c0;clear c0
 go_enter func60,ntmps60
 go_wp2_with fail
 refine d.out.mono ?_;rintro e g ⟨rfl,hb⟩;have c:=qh (hb.alloc hb.size (.cells ring2 123));clear hb;go_wp2;go_ret;exact⟨rfl,c.out⟩
theorem v7u:oneF 3=⟨#[49]⟩:=y4p
theorem v0q (w:World):Calls prog 60 #[.int .i64 3] w (StrE (oneF 3) w):=by
 rw[v7u];have c0:=of_3 w;unfold OfEnd at c0;unfold ring3 at *;have d:=qh c0;clear c0
 go_enter func60,ntmps60
 go_wp2_with fail
 refine d.out.mono ?_;rintro e g ⟨rfl,hb⟩;have c:=qh (hb.alloc hb.size (.cells ring3 123));clear hb;go_wp2;go_ret;exact⟨rfl,c.out⟩
theorem x9h {k:Int} (c:k<1\/3<k):oneF k=⟨#[]⟩:=by unfold oneF;rw[x8i c];rfl
theorem x6s (k:Int) (w:World) (d:k<1\/3<k):Calls prog 60 #[.int .i64 k] w (StrE (oneF k) w):=by
 rw[x9h d];have c0:=x1t k w d;unfold OfEnd at c0;unfold ring0 at *;have g:=qh c0;clear c0
 go_enter func60,ntmps60
 go_wp2_with fail
 refine g.out.mono ?_;rintro e h ⟨rfl,hb⟩;have c:=qh (hb.alloc hb.size (.cells ring0 123));clear hb;go_wp2;go_ret;exact⟨rfl,c.out⟩
theorem z6w (k:Int) (w:World):Calls prog 60 #[.int .i64 k] w (StrE (oneF k) w):=by
 rcases z2y k with rfl|rfl|rfl|c
 ·exact x7m w
 ·exact x8a w
 ·exact v0q w
 exact x6s k w c
theorem v9b (a b:ByteArray) (w:World) (z:a.size<=9223372036854775807) (hb:b.size<=9223372036854775807) (l:Tab w):Calls prog 153 #[.int .i64 1,.string a,.string b] w (PairEnd (z1i 1 a b) w):=by
 have c1:=fun j (h:Below w.heap.size w j)=>z5h a j z (l.below h nlr);have c2:=fun j (h:Below w.heap.size w j)=>z5h b j hb (l.below h nlr);cases k:z0p 1 a with
 | false =>
  rw[y2r k];rw[k] at c1;clear k c2 z hb l;have c0:=of_1 w;unfold OfEnd at c0;unfold ring1 at *;have p:=qh c0;clear c0;have s:=qh c1;clear c1
  go_enter func153,ntmps153
  go_wp2_with fail
  refine p.out.mono ?_;rintro e K ⟨rfl,hb⟩;have c:=qh (hb.alloc hb.size (.cells ring1 123));clear hb
  go_wp2_with fail
  refine nxb (s.out _ c.out) c fun F d=>?_;go_wp2;go_ret2;exact⟨rfl,d.out⟩
 | true =>
  cases m:z0p 1 b with
  | false =>
   rw[y8a m];rw[k] at c1;rw[m] at c2;clear k m z hb l;have c0:=of_1 w;unfold OfEnd at c0;unfold ring1 at *;have p:=qh c0;clear c0;have s:=qh c1;clear c1;have D:=qh c2;clear c2
   go_enter func153,ntmps153
   go_wp2_with fail
   refine p.out.mono ?_;rintro e K ⟨rfl,hb⟩;have c:=qh (hb.alloc hb.size (.cells ring1 123));clear hb
   go_wp2_with fail
   refine(s.out _ c.out).mono ?_;rintro e F ⟨rfl,hb⟩;have g:=qh (hb);have d:=qh (z0a c.out hb);clear hb;obtain⟨q0,q1,q2,q3,q4,q5,q6,B⟩:=z3n g.out
   go_wp2_with fail
   refine nxb (D.out _ d.out) d fun O i=>?_;go_wp2;go_ret2;exact⟨rfl,i.out⟩
  | true =>
   rw[k] at c1;rw[m] at c2;obtain⟨v,I,rv,Q,E,o⟩:=z3h k;obtain⟨u,L,P,R,G,H⟩:=z3h m;clear k m;have J:z1i 1 a b=limV (z1k 1 v u):=by unfold z1i;rw[I,L]
   have c3:=fun j (h:Below w.heap.size w j)=>x2i v u j o H (l.below h nlr);rw[<- E,<- G,<- J] at c3;generalize z1i 1 a b=r at *;obtain⟨T,S⟩:=r;clear J I rv Q E o L P R G H z hb l;have c0:=of_1 w;unfold OfEnd at c0;unfold ring1 at *;have p:=qh c0;clear c0;have s:=qh c1;clear c1;have D:=qh c2;clear c2;have N:=qh c3;clear c3
   go_enter func153,ntmps153
   go_wp2_with fail
   refine p.out.mono ?_;rintro e K ⟨rfl,hb⟩;have c:=qh (hb.alloc hb.size (.cells ring1 123));clear hb
   go_wp2_with fail
   refine(s.out _ c.out).mono ?_;rintro e F ⟨rfl,hb⟩;have g:=qh (hb);have d:=qh (z0a c.out hb);clear hb;obtain⟨q0,q1,q2,q3,q4,q5,q6,B⟩:=z3n g.out
   go_wp2_with fail
   refine(D.out _ d.out).mono ?_;rintro e O ⟨rfl,hb⟩;clear q0 q1 q2 q3 q4 q5 q6 B;have A:=qh (z0a g.out hb);have i:=qh (z0a d.out hb);clear hb;obtain⟨q0,q1,q2,q3,q4,q5,q6,B⟩:=z3n A.out
   go_wp2_with fail
   refine nxb (N.out _ i.out) i fun U C=>?_;go_wp2;go_ret2;exact⟨rfl,C.out⟩
theorem u0t (a b:ByteArray) (w:World) (z:a.size<=9223372036854775807) (hb:b.size<=9223372036854775807) (l:Tab w):Calls prog 153 #[.int .i64 2,.string a,.string b] w (PairEnd (z1i 2 a b) w):=by
 have c1:=fun j (h:Below w.heap.size w j)=>z5g a j z (l.below h nlr);have c2:=fun j (h:Below w.heap.size w j)=>z5g b j hb (l.below h nlr);cases k:z0p 2 a with
 | false =>
  rw[y2r k];rw[k] at c1;clear k c2 z hb l;have c0:=of_2 w;unfold OfEnd at c0;unfold ring2 at *;have p:=qh c0;clear c0;have s:=qh c1;clear c1
  go_enter func153,ntmps153
  go_wp2_with fail
  refine p.out.mono ?_;rintro e K ⟨rfl,hb⟩;have c:=qh (hb.alloc hb.size (.cells ring2 123));clear hb
  go_wp2_with fail
  refine nxb (s.out _ c.out) c fun F d=>?_;go_wp2;go_ret2;exact⟨rfl,d.out⟩
 | true =>
  cases m:z0p 2 b with
  | false =>
   rw[y8a m];rw[k] at c1;rw[m] at c2;clear k m z hb l;have c0:=of_2 w;unfold OfEnd at c0;unfold ring2 at *;have p:=qh c0;clear c0;have s:=qh c1;clear c1;have D:=qh c2;clear c2
   go_enter func153,ntmps153
   go_wp2_with fail
   refine p.out.mono ?_;rintro e K ⟨rfl,hb⟩;have c:=qh (hb.alloc hb.size (.cells ring2 123));clear hb
   go_wp2_with fail
   refine(s.out _ c.out).mono ?_;rintro e F ⟨rfl,hb⟩;have g:=qh (hb);have d:=qh (z0a c.out hb);clear hb;obtain⟨q0,q1,q2,q3,q4,q5,q6,B⟩:=z3i g.out
   go_wp2_with fail
   refine nxb (D.out _ d.out) d fun Q i=>?_;go_wp2;go_ret2;exact⟨rfl,i.out⟩
  | true =>
   rw[k] at c1;rw[m] at c2;obtain⟨v,I,rv,L,E,o⟩:=z3h k;obtain⟨u,N,R,O,G,H⟩:=z3h m;clear k m;have J:z1i 2 a b=limV (z1k 2 v u):=by unfold z1i;rw[I,N]
   have c3:=fun j (h:Below w.heap.size w j)=>v9q v u j o H (z0q L (by decide)) (z0q O (by decide)) (l.below h nlr);rw[<- E,<- G,<- J] at c3;generalize z1i 2 a b=r at *;obtain⟨T,S⟩:=r;clear J I rv L E o N R O G H z hb l;have c0:=of_2 w;unfold OfEnd at c0;unfold ring2 at *;have p:=qh c0;clear c0;have s:=qh c1;clear c1;have D:=qh c2;clear c2;have P:=qh c3;clear c3
   go_enter func153,ntmps153
   go_wp2_with fail
   refine p.out.mono ?_;rintro e K ⟨rfl,hb⟩;have c:=qh (hb.alloc hb.size (.cells ring2 123));clear hb
   go_wp2_with fail
   refine(s.out _ c.out).mono ?_;rintro e F ⟨rfl,hb⟩;have g:=qh (hb);have d:=qh (z0a c.out hb);clear hb;obtain⟨q0,q1,q2,q3,q4,q5,q6,B⟩:=z3i g.out
   go_wp2_with fail
   refine(D.out _ d.out).mono ?_;rintro e Q ⟨rfl,hb⟩;clear q0 q1 q2 q3 q4 q5 q6 B;have A:=qh (z0a g.out hb);have i:=qh (z0a d.out hb);clear hb;obtain⟨q0,q1,q2,q3,q4,q5,q6,B⟩:=z3i A.out
   go_wp2_with fail
   refine nxb (P.out _ i.out) i fun U C=>?_;go_wp2;go_ret2;exact⟨rfl,C.out⟩
theorem u0d (a b:ByteArray) (w:World) (z:a.size<=9223372036854775807) (hb:b.size<=9223372036854775807) (l:Tab w):Calls prog 153 #[.int .i64 3,.string a,.string b] w (PairEnd (z1i 3 a b) w):=by
 have c1:=fun j (h:Below w.heap.size w j)=>z5i a j z (l.below h nlr);have c2:=fun j (h:Below w.heap.size w j)=>z5i b j hb (l.below h nlr);cases k:z0p 3 a with
 | false =>
  rw[y2r k];rw[k] at c1;clear k c2 z hb l;have c0:=of_3 w;unfold OfEnd at c0;unfold ring3 at *;have p:=qh c0;clear c0;have s:=qh c1;clear c1
  go_enter func153,ntmps153
  go_wp2_with fail
  refine p.out.mono ?_;rintro e K ⟨rfl,hb⟩;have c:=qh (hb.alloc hb.size (.cells ring3 123));clear hb
  go_wp2_with fail
  refine nxb (s.out _ c.out) c fun F d=>?_;go_wp2;go_ret2;exact⟨rfl,d.out⟩
 | true =>
  cases m:z0p 3 b with
  | false =>
   rw[y8a m];rw[k] at c1;rw[m] at c2;clear k m z hb l;have c0:=of_3 w;unfold OfEnd at c0;unfold ring3 at *;have p:=qh c0;clear c0;have s:=qh c1;clear c1;have D:=qh c2;clear c2
   go_enter func153,ntmps153
   go_wp2_with fail
   refine p.out.mono ?_;rintro e K ⟨rfl,hb⟩;have c:=qh (hb.alloc hb.size (.cells ring3 123));clear hb
   go_wp2_with fail
   refine(s.out _ c.out).mono ?_;rintro e F ⟨rfl,hb⟩;have g:=qh (hb);have d:=qh (z0a c.out hb);clear hb;obtain⟨q0,q1,q2,q3,q4,q5,q6,B⟩:=z3j g.out
   go_wp2_with fail
   refine nxb (D.out _ d.out) d fun O i=>?_;go_wp2;go_ret2;exact⟨rfl,i.out⟩
  | true =>
   rw[k] at c1;rw[m] at c2;obtain⟨v,I,rv,Q,E,o⟩:=z3h k;obtain⟨u,L,P,R,G,H⟩:=z3h m;clear k m;have J:z1i 3 a b=limV (z1k 3 v u):=by unfold z1i;rw[I,L]
   have c3:=fun j (h:Below w.heap.size w j)=>x3a v u j o H (l.below h nlr);rw[<- E,<- G,<- J] at c3;generalize z1i 3 a b=r at *;obtain⟨T,S⟩:=r;clear J I rv Q E o L P R G H z hb l;have c0:=of_3 w;unfold OfEnd at c0;unfold ring3 at *;have p:=qh c0;clear c0;have s:=qh c1;clear c1;have D:=qh c2;clear c2;have N:=qh c3;clear c3
   go_enter func153,ntmps153
   go_wp2_with fail
   refine p.out.mono ?_;rintro e K ⟨rfl,hb⟩;have c:=qh (hb.alloc hb.size (.cells ring3 123));clear hb
   go_wp2_with fail
   refine(s.out _ c.out).mono ?_;rintro e F ⟨rfl,hb⟩;have g:=qh (hb);have d:=qh (z0a c.out hb);clear hb;obtain⟨q0,q1,q2,q3,q4,q5,q6,B⟩:=z3j g.out
   go_wp2_with fail
   refine(D.out _ d.out).mono ?_;rintro e O ⟨rfl,hb⟩;clear q0 q1 q2 q3 q4 q5 q6 B;have A:=qh (z0a g.out hb);have i:=qh (z0a d.out hb);clear hb;obtain⟨q0,q1,q2,q3,q4,q5,q6,B⟩:=z3j A.out
   go_wp2_with fail
   refine nxb (N.out _ i.out) i fun U C=>?_;go_wp2;go_ret2;exact⟨rfl,C.out⟩
theorem v6z (k:Int) (a b:ByteArray) (w:World) (d:k<1\/3<k):Calls prog 153 #[.int .i64 k,.string a,.string b] w (PairEnd (z1i k a b) w):=by
 rw[y2r (y0e d a)];have c0:=x1t k w d;unfold OfEnd at c0;unfold ring0 at *;have g:=qh c0;clear c0
 go_enter func153,ntmps153
 go_wp2_with fail
 refine g.out.mono ?_;rintro e h ⟨rfl,hb⟩;have c:=qh (hb.alloc hb.size (.cells ring0 123));clear hb;go_wp2;go_ret2;exact⟨rfl,c.out⟩
theorem y2j (k:Int) (a b:ByteArray) (w:World) (c:a.size<=9223372036854775807) (hb:b.size<=9223372036854775807) (d:Tab w):Calls prog 153 #[.int .i64 k,.string a,.string b] w (PairEnd (z1i k a b) w):=by
 rcases z2y k with rfl|rfl|rfl|g
 ·exact v9b a b w c hb d
 ·exact u0t a b w c hb d
 ·exact u0d a b w c hb d
 exact v6z k a b w g
end
section
open Go.RowKit
theorem v8z (a:ByteArray) (w:World) (p:a.size<=9223372036854775807) (k:Tab w):Calls prog 216 #[.int .i64 1,.string a] w (PairEnd (z5k 1 a) w):=by
 have c1:=fun j (h:Below w.heap.size w j)=>z5h a j p (k.below h nlr);cases g:z0p 1 a with
 | false =>
  rw[y7d g];rw[g] at c1;clear g p k;have c0:=of_1 w;unfold OfEnd at c0;unfold ring1 at *;have l:=qh c0;clear c0;have s:=qh c1;clear c1
  go_enter func216,ntmps216
  go_wp2_with fail
  refine l.out.mono ?_;rintro e D ⟨rfl,hb⟩;have c:=qh (hb.alloc hb.size (.cells ring1 123));clear hb
  go_wp2_with fail
  refine nxb (s.out _ c.out) c fun B d=>?_;go_wp2;go_ret2;exact⟨rfl,d.out⟩
 | true =>
  rw[g] at c1;obtain⟨v,z,rv,E,u,i⟩:=z3h g;have A:z5k 1 a=limV (z1x 1 v):=by unfold z5k;rw[z]
  have c3:=fun j (h:Below w.heap.size w j)=>x1i v j i (k.below h nlr);rw[<- u,<- A] at c3;generalize z5k 1 a=r at *;obtain⟨I,H⟩:=r;clear g A z rv E u i p k;have c0:=of_1 w;unfold OfEnd at c0;unfold ring1 at *;have l:=qh c0;clear c0;have s:=qh c1;clear c1;have C:=qh c3;clear c3
  go_enter func216,ntmps216
  go_wp2_with fail
  refine l.out.mono ?_;rintro e D ⟨rfl,hb⟩;have c:=qh (hb.alloc hb.size (.cells ring1 123));clear hb
  go_wp2_with fail
  refine(s.out _ c.out).mono ?_;rintro e B ⟨rfl,hb⟩;have m:=qh (hb);have d:=qh (z0a c.out hb);clear hb;obtain⟨q0,q1,q2,q3,q4,q5,q6,F⟩:=z3n m.out
  go_wp2_with fail
  refine nxb (C.out _ d.out) d fun G o=>?_;go_wp2;go_ret2;exact⟨rfl,o.out⟩
theorem u0s (a:ByteArray) (w:World) (p:a.size<=9223372036854775807) (k:Tab w):Calls prog 216 #[.int .i64 2,.string a] w (PairEnd (z5k 2 a) w):=by
 have c1:=fun j (h:Below w.heap.size w j)=>z5g a j p (k.below h nlr);cases g:z0p 2 a with
 | false =>
  rw[y7d g];rw[g] at c1;clear g p k;have c0:=of_2 w;unfold OfEnd at c0;unfold ring2 at *;have l:=qh c0;clear c0;have s:=qh c1;clear c1
  go_enter func216,ntmps216
  go_wp2_with fail
  refine l.out.mono ?_;rintro e E ⟨rfl,hb⟩;have c:=qh (hb.alloc hb.size (.cells ring2 123));clear hb
  go_wp2_with fail
  refine nxb (s.out _ c.out) c fun C d=>?_;go_wp2;go_ret2;exact⟨rfl,d.out⟩
 | true =>
  rw[g] at c1;obtain⟨v,z,rv,B,u,i⟩:=z3h g;have A:z5k 2 a=limV (z1x 2 v):=by unfold z5k;rw[z]
  have c3:=fun j (h:Below w.heap.size w j)=>x1g v j i B (k.below h nlr);rw[<- u,<- A] at c3;generalize z5k 2 a=r at *;obtain⟨I,H⟩:=r;clear g A z rv B u i p k;have c0:=of_2 w;unfold OfEnd at c0;unfold ring2 at *;have l:=qh c0;clear c0;have s:=qh c1;clear c1;have D:=qh c3;clear c3
  go_enter func216,ntmps216
  go_wp2_with fail
  refine l.out.mono ?_;rintro e E ⟨rfl,hb⟩;have c:=qh (hb.alloc hb.size (.cells ring2 123));clear hb
  go_wp2_with fail
  refine(s.out _ c.out).mono ?_;rintro e C ⟨rfl,hb⟩;have m:=qh (hb);have d:=qh (z0a c.out hb);clear hb;obtain⟨q0,q1,q2,q3,q4,q5,q6,F⟩:=z3i m.out
  go_wp2_with fail
  refine nxb (D.out _ d.out) d fun G o=>?_;go_wp2;go_ret2;exact⟨rfl,o.out⟩
theorem u1z (a:ByteArray) (w:World) (p:a.size<=9223372036854775807) (k:Tab w):Calls prog 216 #[.int .i64 3,.string a] w (PairEnd (z5k 3 a) w):=by
 have c1:=fun j (h:Below w.heap.size w j)=>z5i a j p (k.below h nlr);cases g:z0p 3 a with
 | false =>
  rw[y7d g];rw[g] at c1;clear g p k;have c0:=of_3 w;unfold OfEnd at c0;unfold ring3 at *;have l:=qh c0;clear c0;have s:=qh c1;clear c1
  go_enter func216,ntmps216
  go_wp2_with fail
  refine l.out.mono ?_;rintro e D ⟨rfl,hb⟩;have c:=qh (hb.alloc hb.size (.cells ring3 123));clear hb
  go_wp2_with fail
  refine nxb (s.out _ c.out) c fun B d=>?_;go_wp2;go_ret2;exact⟨rfl,d.out⟩
 | true =>
  rw[g] at c1;obtain⟨v,z,rv,E,u,i⟩:=z3h g;have A:z5k 3 a=limV (z1x 3 v):=by unfold z5k;rw[z]
  have c3:=fun j (h:Below w.heap.size w j)=>y9i v j i (k.below h nlr);rw[<- u,<- A] at c3;generalize z5k 3 a=r at *;obtain⟨I,H⟩:=r;clear g A z rv E u i p k;have c0:=of_3 w;unfold OfEnd at c0;unfold ring3 at *;have l:=qh c0;clear c0;have s:=qh c1;clear c1;have C:=qh c3;clear c3
  go_enter func216,ntmps216
  go_wp2_with fail
  refine l.out.mono ?_;rintro e D ⟨rfl,hb⟩;have c:=qh (hb.alloc hb.size (.cells ring3 123));clear hb
  go_wp2_with fail
  refine(s.out _ c.out).mono ?_;rintro e B ⟨rfl,hb⟩;have m:=qh (hb);have d:=qh (z0a c.out hb);clear hb;obtain⟨q0,q1,q2,q3,q4,q5,q6,F⟩:=z3j m.out
  go_wp2_with fail
  refine nxb (C.out _ d.out) d fun G o=>?_;go_wp2;go_ret2;exact⟨rfl,o.out⟩
theorem v4i (k:Int) (a:ByteArray) (w:World) (d:k<1\/3<k):Calls prog 216 #[.int .i64 k,.string a] w (PairEnd (z5k k a) w):=by
 rw[y7d (y0e d a)];have c0:=x1t k w d;unfold OfEnd at c0;unfold ring0 at *;have g:=qh c0;clear c0
 go_enter func216,ntmps216
 go_wp2_with fail
 refine g.out.mono ?_;rintro e h ⟨rfl,hb⟩;have c:=qh (hb.alloc hb.size (.cells ring0 123));clear hb;go_wp2;go_ret2;exact⟨rfl,c.out⟩
theorem x0t (k:Int) (a:ByteArray) (w:World) (c:a.size<=9223372036854775807) (d:Tab w):Calls prog 216 #[.int .i64 k,.string a] w (PairEnd (z5k k a) w):=by
 rcases z2y k with rfl|rfl|rfl|g
 ·exact v8z a w c d
 ·exact u0s a w c d
 ·exact u1z a w c d
 exact v4i k a w g
end
section
open Go.RowKit
end
section
open Go.RowKit
theorem index3a0 (w:World):(Instr.index 126 (.agg #[.string ⟨#[105,110,102]⟩,.string ⟨#[105,110,102]⟩,.string ⟨#[45,105,110,102]⟩]) (.int .i64 0)).run prog w=.ok (.string ⟨#[105,110,102]⟩) w:=by kernel_rfl
theorem index3a1 (w:World):(Instr.index 126 (.agg #[.string ⟨#[105,110,102]⟩,.string ⟨#[105,110,102]⟩,.string ⟨#[45,105,110,102]⟩]) (.int .i64 1)).run prog w=.ok (.string ⟨#[105,110,102]⟩) w:=by kernel_rfl
theorem index3a2 (w:World):(Instr.index 126 (.agg #[.string ⟨#[105,110,102]⟩,.string ⟨#[105,110,102]⟩,.string ⟨#[45,105,110,102]⟩]) (.int .i64 2)).run prog w=.ok (.string ⟨#[45,105,110,102]⟩) w:=by kernel_rfl
theorem index3b0 (w:World):(Instr.index 126 (.agg #[.string ⟨#[48]⟩,.string ⟨#[105,110,102]⟩,.string ⟨#[45,105,110,102]⟩]) (.int .i64 0)).run prog w=.ok (.string ⟨#[48]⟩) w:=by kernel_rfl
theorem index3b1 (w:World):(Instr.index 126 (.agg #[.string ⟨#[48]⟩,.string ⟨#[105,110,102]⟩,.string ⟨#[45,105,110,102]⟩]) (.int .i64 1)).run prog w=.ok (.string ⟨#[105,110,102]⟩) w:=by kernel_rfl
theorem index3b2 (w:World):(Instr.index 126 (.agg #[.string ⟨#[48]⟩,.string ⟨#[105,110,102]⟩,.string ⟨#[45,105,110,102]⟩]) (.int .i64 2)).run prog w=.ok (.string ⟨#[45,105,110,102]⟩) w:=by kernel_rfl
theorem x6g {v:V} (h:fitV v):((vtxt v).toList==[105,110,102])=decide (v=.inf):=by
 cases v with
 | inf=>show (infS.toList==_)=_;rw[z2v];rfl
 | low=>show (lowS.toList==_)=_;rw[z5u];rfl
 | fin q=>show ((txt q).toList==_)=_;rw[z8x h];rfl
theorem x6q {v:V} (h:fitV v):((vtxt v).toList==[45,105,110,102])=decide (v=.low):=by
 cases v with
 | inf=>show (infS.toList==_)=_;rw[z2v];rfl
 | low=>show (lowS.toList==_)=_;rw[z5u];rfl
 | fin q=>show ((txt q).toList==_)=_;rw[y6j h];rfl
theorem y6r {v:V} (h:fitV v):((vtxt v).toList==[48])=decide (v=.fin 0):=by
 cases v with
 | inf=>show (infS.toList==_)=_;rw[z2v];rfl
 | low=>show (lowS.toList==_)=_;rw[z5u];rfl
 | fin q =>
  show ((txt q).toList==_)=_;by_cases c:q=0
  ·subst c;rw[z5y,Lib.toList_data];simp
  rw[decide_eq_false (fun e=>c (by injection e))];exact z4i (l:=[48]) (fun e=>c (u1u h y2t (e.trans z5y.symm)))
theorem z8q:limV .inf=(⟨#[105,110,102]⟩,0):=rfl
theorem x4g:limV .low=(⟨#[45,105,110,102]⟩,0):=rfl
theorem z9w:limV (.fin 0)=(⟨#[48]⟩,0):=(z8w y2t).trans (by rw[z5y])
theorem v6a (a b:ByteArray) (w:World) (N:a.size<=9223372036854775807) (hb:b.size<=9223372036854775807) (E:Tab w):Calls prog 44 #[.int .i64 1,.string a,.string b] w (PairEnd (z0n 1 a b) w):=by
 have c1:=fun z (h:Below w.heap.size w z)=>z5h a z N (E.below h nlr);have c2:=fun z (h:Below w.heap.size w z)=>z5h b z hb (E.below h nlr);cases A:z0p 1 a with
 | false =>
  rw[y0h A];rw[A] at c1;clear A c2 N hb E;have c0:=of_1 w;unfold OfEnd at c0;unfold ring1 at *;have I:=qh c0;clear c0;have H:=qh c1;clear c1
  go_enter func44,ntmps44
  go_wp2_with fail
  refine I.out.mono ?_;rintro e w1 ⟨rfl,hb⟩;have d:=qh (hb.alloc hb.size (.cells ring1 123));clear hb
  go_wp2_with fail
  refine nxb (H.out _ d.out) d fun w2 i=>?_;go_wp2;go_ret2;exact⟨rfl,i.out⟩
 | true =>
  cases F:z0p 1 b with
  | false =>
   rw[y3p F];rw[A] at c1;rw[F] at c2;clear A F N hb E;have c0:=of_1 w;unfold OfEnd at c0;unfold ring1 at *;have I:=qh c0;clear c0;have H:=qh c1;clear c1;have Y:=qh c2;clear c2
   go_enter func44,ntmps44
   go_wp2_with fail
   refine I.out.mono ?_;rintro e w1 ⟨rfl,hb⟩;have d:=qh (hb.alloc hb.size (.cells ring1 123));clear hb
   go_wp2_with fail
   refine(H.out _ d.out).mono ?_;rintro e w2 ⟨rfl,hb⟩;have p:=qh (hb);have i:=qh (z0a d.out hb);clear hb;obtain⟨q0,q1,q2,q3,q4,q5,q6,q7⟩:=z3n p.out
   go_wp2_with fail
   refine nxb (Y.out _ i.out) i fun w3 c=>?_;go_wp2;go_ret2;exact⟨rfl,c.out⟩
  | true =>
   rw[A] at c1;rw[F] at c2;obtain⟨v,pv,rv,ov,Z,j⟩:=z3h A;obtain⟨u,pu,ru,ou,S,K⟩:=z3h F;clear A F;have hr:z0n 1 a b=limV (z0i 1 v u):=by unfold z0n;rw[pv,pu]
   have U:=index3a0;have R:=index3a1;have X:=index3a2;have D:=x6g j;have s:=x6q j;have o:=y6r j;have B:=x6g K;have m:=x6q K;have l:=y6r K;rw[<- Z] at D s o;rw[<- S] at B m l;have c0:=of_1 w;unfold OfEnd at c0;unfold ring1 at *;have I:=qh c0;clear c0;have H:=qh c1;clear c1;have Y:=qh c2;clear c2;rw[hr];obtain⟨r,C⟩:=exq (limV (z0i 1 v u));rw[<- C];obtain⟨G,J⟩:=r;have k:=qh C;clear C;have HX:=qh (And.intro U (And.intro R X));clear U R X;have W:=qh (And.intro D (And.intro s o));clear D s o;have P:=qh (And.intro B (And.intro m l));clear B m l;have EA:=qh Z;have EB:=qh S;have FA:=qh j;have FB:=qh K;have OV:=qh ov;have OU:=qh ou;clear hr pv rv ov Z j pu ru ou S K N hb;have HT:=qh E;clear E
   go_enter func44,ntmps44
   go_wp2_with fail
   refine I.out.mono ?_;rintro e w1 ⟨rfl,hb⟩;have d:=qh (hb.alloc hb.size (.cells ring1 123));clear hb
   go_wp2_with fail
   refine(H.out _ d.out).mono ?_;rintro e w2 ⟨rfl,hb⟩;have p:=qh (hb);have i:=qh (z0a d.out hb);clear hb;obtain⟨q0,q1,q2,q3,q4,q5,q6,q7⟩:=z3n p.out
   go_wp2_with fail
   refine(Y.out _ i.out).mono ?_;rintro e w3 ⟨rfl,hb⟩;clear q0 q1 q2 q3 q4 q5 q6 q7;have Q:=qh (z0a p.out hb);have c:=qh (z0a i.out hb);clear hb;obtain⟨q0,q1,q2,q3,q4,q5,q6,q7⟩:=z3n Q.out
   go_wp2_with fail
   obtain⟨U,R,X⟩:=HX.out;obtain⟨D,s,o⟩:=W.out;obtain⟨B,m,l⟩:=P.out;by_cases v1:v=.inf
   ·subst v1;simp only[decide_true] at D;clear s o B m l;have g:G=⟨#[105,110,102]⟩/\J=0:=by
     have:=k.out;rw[show z0i 1 _ _=.inf from by rw[times1],z8q] at this;injection this with e1 e2;exact⟨e1,e2⟩
    obtain⟨rfl,rfl⟩:=g;refine wp_loop_rounds 4 ?_;rw[rounds_succ];go_wp2;go_ret2;exact⟨rfl,c.out⟩
   rw[decide_eq_false v1] at D;by_cases L:u=.inf
   ·subst L;simp only[decide_true] at B;clear s o m l;have g:G=⟨#[105,110,102]⟩/\J=0:=by
     have:=k.out;rw[show z0i 1 _ _=.inf from by rw[times1];cases v<;>first|rfl|exact absurd rfl v1,z8q] at this
     injection this with e1 e2;exact⟨e1,e2⟩
    obtain⟨rfl,rfl⟩:=g;refine wp_loop_rounds 4 ?_;rw[rounds_succ];go_wp2;go_ret2;exact⟨rfl,c.out⟩
   rw[decide_eq_false L] at B;by_cases O:v=.low
   ·subst O;simp only[decide_true] at s;clear o m l;have g:G=⟨#[45,105,110,102]⟩/\J=0:=by
     have:=k.out;rw[show z0i 1 _ _=.low from by rw[times1];cases u<;>first|rfl|exact absurd rfl L,x4g] at this
     injection this with e1 e2;exact⟨e1,e2⟩
    obtain⟨rfl,rfl⟩:=g;refine wp_loop_rounds 4 ?_;rw[rounds_succ];go_wp2_with fail;rw[rounds_succ];go_wp2_with fail;rw[rounds_succ];go_wp2;go_ret2;exact⟨rfl,c.out⟩
   rw[decide_eq_false O] at s;by_cases T:u=.low
   ·subst T;simp only[decide_true] at m;clear o l;have g:G=⟨#[45,105,110,102]⟩/\J=0:=by
     have:=k.out;rw[show z0i 1 _ _=.low from by rw[times1];cases v<;>first|rfl|exact absurd rfl v1,x4g] at this
     injection this with e1 e2;exact⟨e1,e2⟩
    obtain⟨rfl,rfl⟩:=g;refine wp_loop_rounds 4 ?_;rw[rounds_succ];go_wp2_with fail;rw[rounds_succ];go_wp2_with fail;rw[rounds_succ];go_wp2;go_ret2;exact⟨rfl,c.out⟩
   rw[decide_eq_false T] at m;clear o l;cases v with
   | inf=>exact absurd rfl v1
   | low=>exact absurd rfl O
   | fin x =>
    cases u with
    | inf=>exact absurd rfl L
    | low=>exact absurd rfl T
    | fin y =>
     have za:a.size<=9223372036854775807:=by have:=z2x FA.out;rw[EA.out];show (txt x).size<=_;omega
     have zb:b.size<=9223372036854775807:=by have:=z2x FB.out;rw[EB.out];show (txt y).size<=_;omega
     have c3:=fun z (h:Below w.heap.size w z)=>x5d a b z za zb (HT.out.below h nlr);have e3:x0b a b=(G,J):=by
      rw[k.out,times1,EA.out,EB.out];show x0b (txt x) (txt y)=_;unfold x0b;rw[z2k FA.out,z2k FB.out];rfl
     rw[e3] at c3;have C3:=qh c3;clear c3 e3 za zb;refine wp_loop_rounds 4 ?_;rw[rounds_succ];go_wp2_with fail;rw[rounds_succ];go_wp2_with fail;rw[rounds_succ];go_wp2_with fail;rw[rounds_succ];go_wp2_with fail
     go_wp2_with fail
     refine nxb (C3.out _ c.out) c fun w4 a1=>?_;go_wp2;go_ret2;exact⟨rfl,a1.out⟩
theorem v4y (a b:ByteArray) (w:World) (P:a.size<=9223372036854775807) (hb:b.size<=9223372036854775807) (F:Tab w):Calls prog 44 #[.int .i64 2,.string a,.string b] w (PairEnd (z0n 2 a b) w):=by
 have c1:=fun z (h:Below w.heap.size w z)=>z5g a z P (F.below h nlr);have c2:=fun z (h:Below w.heap.size w z)=>z5g b z hb (F.below h nlr);cases A:z0p 2 a with
 | false =>
  rw[y0h A];rw[A] at c1;clear A c2 P hb F;have c0:=of_2 w;unfold OfEnd at c0;unfold ring2 at *;have K:=qh c0;clear c0;have J:=qh c1;clear c1
  go_enter func44,ntmps44
  go_wp2_with fail
  refine K.out.mono ?_;rintro e w1 ⟨rfl,hb⟩;have d:=qh (hb.alloc hb.size (.cells ring2 123));clear hb
  go_wp2_with fail
  refine nxb (J.out _ d.out) d fun w2 i=>?_;go_wp2;go_ret2;exact⟨rfl,i.out⟩
 | true =>
  cases H:z0p 2 b with
  | false =>
   rw[y3p H];rw[A] at c1;rw[H] at c2;clear A H P hb F;have c0:=of_2 w;unfold OfEnd at c0;unfold ring2 at *;have K:=qh c0;clear c0;have J:=qh c1;clear c1;have C2:=qh c2;clear c2
   go_enter func44,ntmps44
   go_wp2_with fail
   refine K.out.mono ?_;rintro e w1 ⟨rfl,hb⟩;have d:=qh (hb.alloc hb.size (.cells ring2 123));clear hb
   go_wp2_with fail
   refine(J.out _ d.out).mono ?_;rintro e w2 ⟨rfl,hb⟩;have o:=qh (hb);have i:=qh (z0a d.out hb);clear hb;obtain⟨q0,q1,q2,q3,q4,q5,q6,q7⟩:=z3i o.out
   go_wp2_with fail
   refine nxb (C2.out _ i.out) i fun w3 c=>?_;go_wp2;go_ret2;exact⟨rfl,c.out⟩
  | true =>
   rw[A] at c1;rw[H] at c2;obtain⟨v,pv,rv,ov,ea,j⟩:=z3h A;obtain⟨u,pu,ru,ou,U,N⟩:=z3h H;clear A H;have hr:z0n 2 a b=limV (z0i 2 v u):=by unfold z0n;rw[pv,pu]
   have X:=index3b0;have T:=index3b1;have Z:=index3b2;have s:=x6g j;have p:=x6q j;have G:=y6r j;have l:=x6g N;have m:=x6q N;have C:=y6r N;rw[<- ea] at s p G;rw[<- U] at l m C;have c0:=of_2 w;unfold OfEnd at c0;unfold ring2 at *;have K:=qh c0;clear c0;have J:=qh c1;clear c1;have C2:=qh c2;clear c2;rw[hr];obtain⟨r,E⟩:=exq (limV (z0i 2 v u));rw[<- E];obtain⟨I,L⟩:=r;have k:=qh E;clear E;have HX:=qh (And.intro X (And.intro T Z));clear X T Z;have Y:=qh (And.intro s (And.intro p G));clear s p G;have R:=qh (And.intro l (And.intro m C));clear l m C;have EA:=qh ea;have EB:=qh U;have FA:=qh j;have FB:=qh N;have OV:=qh ov;have OU:=qh ou;clear hr pv rv ov ea j pu ru ou U N P hb;have HT:=qh F;clear F
   go_enter func44,ntmps44
   go_wp2_with fail
   refine K.out.mono ?_;rintro e w1 ⟨rfl,hb⟩;have d:=qh (hb.alloc hb.size (.cells ring2 123));clear hb
   go_wp2_with fail
   refine(J.out _ d.out).mono ?_;rintro e w2 ⟨rfl,hb⟩;have o:=qh (hb);have i:=qh (z0a d.out hb);clear hb;obtain⟨q0,q1,q2,q3,q4,q5,q6,q7⟩:=z3i o.out
   go_wp2_with fail
   refine(C2.out _ i.out).mono ?_;rintro e w3 ⟨rfl,hb⟩;clear q0 q1 q2 q3 q4 q5 q6 q7;have S:=qh (z0a o.out hb);have c:=qh (z0a i.out hb);clear hb;obtain⟨q0,q1,q2,q3,q4,q5,q6,q7⟩:=z3i S.out
   go_wp2_with fail
   obtain⟨X,T,Z⟩:=HX.out;obtain⟨s,p,G⟩:=Y.out;obtain⟨l,m,C⟩:=R.out;have B:v≠.low:=z0q OV.out (by decide);have D:u≠.low:=z0q OU.out (by decide);rw[decide_eq_false B] at p;rw[decide_eq_false D] at m;by_cases v1:v=.fin 0
   ·subst v1;simp only[decide_true] at G;clear s p l m C;have g:I=⟨#[48]⟩/\L=0:=by
     have:=k.out;rw[show z0i 2 _ _=.fin 0 from by rw[times23 (by decide) B D,z2f],z9w] at this;injection this with e1 e2;exact⟨e1,e2⟩
    obtain⟨rfl,rfl⟩:=g;refine wp_loop_rounds 4 ?_;rw[rounds_succ];go_wp2;go_ret2;exact⟨rfl,c.out⟩
   rw[decide_eq_false v1] at G;by_cases O:u=.fin 0
   ·subst O;simp only[decide_true] at C;clear s p l m;have g:I=⟨#[48]⟩/\L=0:=by
     have:=k.out;rw[show z0i 2 _ _=.fin 0 from by rw[times23 (by decide) B D,z1y],z9w] at this;injection this with e1 e2;exact⟨e1,e2⟩
    obtain⟨rfl,rfl⟩:=g;refine wp_loop_rounds 4 ?_;rw[rounds_succ];go_wp2;go_ret2;exact⟨rfl,c.out⟩
   rw[decide_eq_false O] at C;by_cases Q:v=.inf
   ·subst Q;simp only[decide_true] at s;clear p l m;have g:I=⟨#[105,110,102]⟩/\L=0:=by
     have:=k.out;rw[show z0i 2 _ _=.inf from by rw[times23 (by decide) B D];unfold mulV;rw[if_neg (fun e=>e.elim v1 O)],z8q] at this;injection this with e1 e2;exact⟨e1,e2⟩
    obtain⟨rfl,rfl⟩:=g;refine wp_loop_rounds 4 ?_;rw[rounds_succ];go_wp2_with fail;rw[rounds_succ];go_wp2;go_ret2;exact⟨rfl,c.out⟩
   rw[decide_eq_false Q] at s;by_cases W:u=.inf
   ·subst W;simp only[decide_true] at l;clear p m;have g:I=⟨#[105,110,102]⟩/\L=0:=by
     have:=k.out;rw[show z0i 2 _ _=.inf from by rw[times23 (by decide) B D];unfold mulV;rw[if_neg (fun e=>e.elim v1 O)];cases v<;>rfl,z8q] at this
     injection this with e1 e2;exact⟨e1,e2⟩
    obtain⟨rfl,rfl⟩:=g;refine wp_loop_rounds 4 ?_;rw[rounds_succ];go_wp2_with fail;rw[rounds_succ];go_wp2;go_ret2;exact⟨rfl,c.out⟩
   rw[decide_eq_false W] at l;cases v with
   | inf=>exact absurd rfl Q
   | low=>exact absurd rfl B
   | fin x =>
    cases u with
    | inf=>exact absurd rfl W
    | low=>exact absurd rfl D
    | fin y =>
     have za:a.size<=9223372036854775807:=by have:=z2x FA.out;rw[EA.out];show (txt x).size<=_;omega
     have zb:b.size<=9223372036854775807:=by have:=z2x FB.out;rw[EB.out];show (txt y).size<=_;omega
     have c3:=fun z (h:Below w.heap.size w z)=>x4a a b z za zb (HT.out.below h nlr);have e3:y7j a b=(I,L):=by
      rw[k.out,times23 (by decide) B D,z1e,EA.out,EB.out];show y7j (txt x) (txt y)=_;unfold y7j;rw[z2k FA.out,z2k FB.out];rfl
     rw[e3] at c3;have C3:=qh c3;clear c3 e3 za zb;refine wp_loop_rounds 4 ?_;rw[rounds_succ];go_wp2_with fail;rw[rounds_succ];go_wp2_with fail;rw[rounds_succ];go_wp2_with fail;rw[rounds_succ];go_wp2_with fail
     go_wp2_with fail
     refine nxb (C3.out _ c.out) c fun w4 a1=>?_;go_wp2;go_ret2;exact⟨rfl,a1.out⟩
theorem v6d (a b:ByteArray) (w:World) (P:a.size<=9223372036854775807) (hb:b.size<=9223372036854775807) (F:Tab w):Calls prog 44 #[.int .i64 3,.string a,.string b] w (PairEnd (z0n 3 a b) w):=by
 have c1:=fun z (h:Below w.heap.size w z)=>z5i a z P (F.below h nlr);have c2:=fun z (h:Below w.heap.size w z)=>z5i b z hb (F.below h nlr);cases A:z0p 3 a with
 | false =>
  rw[y0h A];rw[A] at c1;clear A c2 P hb F;have c0:=of_3 w;unfold OfEnd at c0;unfold ring3 at *;have K:=qh c0;clear c0;have J:=qh c1;clear c1
  go_enter func44,ntmps44
  go_wp2_with fail
  refine K.out.mono ?_;rintro e w1 ⟨rfl,hb⟩;have d:=qh (hb.alloc hb.size (.cells ring3 123));clear hb
  go_wp2_with fail
  refine nxb (J.out _ d.out) d fun w2 i=>?_;go_wp2;go_ret2;exact⟨rfl,i.out⟩
 | true =>
  cases H:z0p 3 b with
  | false =>
   rw[y3p H];rw[A] at c1;rw[H] at c2;clear A H P hb F;have c0:=of_3 w;unfold OfEnd at c0;unfold ring3 at *;have K:=qh c0;clear c0;have J:=qh c1;clear c1;have C2:=qh c2;clear c2
   go_enter func44,ntmps44
   go_wp2_with fail
   refine K.out.mono ?_;rintro e w1 ⟨rfl,hb⟩;have d:=qh (hb.alloc hb.size (.cells ring3 123));clear hb
   go_wp2_with fail
   refine(J.out _ d.out).mono ?_;rintro e w2 ⟨rfl,hb⟩;have o:=qh (hb);have i:=qh (z0a d.out hb);clear hb;obtain⟨q0,q1,q2,q3,q4,q5,q6,q7⟩:=z3j o.out
   go_wp2_with fail
   refine nxb (C2.out _ i.out) i fun w3 c=>?_;go_wp2;go_ret2;exact⟨rfl,c.out⟩
  | true =>
   rw[A] at c1;rw[H] at c2;obtain⟨v,pv,rv,ov,ea,j⟩:=z3h A;obtain⟨u,pu,ru,ou,U,N⟩:=z3h H;clear A H;have hr:z0n 3 a b=limV (z0i 3 v u):=by unfold z0n;rw[pv,pu]
   have X:=index3b0;have T:=index3b1;have Z:=index3b2;have s:=x6g j;have p:=x6q j;have G:=y6r j;have l:=x6g N;have m:=x6q N;have C:=y6r N;rw[<- ea] at s p G;rw[<- U] at l m C;have c0:=of_3 w;unfold OfEnd at c0;unfold ring3 at *;have K:=qh c0;clear c0;have J:=qh c1;clear c1;have C2:=qh c2;clear c2;rw[hr];obtain⟨r,E⟩:=exq (limV (z0i 3 v u));rw[<- E];obtain⟨I,L⟩:=r;have k:=qh E;clear E;have HX:=qh (And.intro X (And.intro T Z));clear X T Z;have Y:=qh (And.intro s (And.intro p G));clear s p G;have R:=qh (And.intro l (And.intro m C));clear l m C;have EA:=qh ea;have EB:=qh U;have FA:=qh j;have FB:=qh N;have OV:=qh ov;have OU:=qh ou;clear hr pv rv ov ea j pu ru ou U N P hb;have HT:=qh F;clear F
   go_enter func44,ntmps44
   go_wp2_with fail
   refine K.out.mono ?_;rintro e w1 ⟨rfl,hb⟩;have d:=qh (hb.alloc hb.size (.cells ring3 123));clear hb
   go_wp2_with fail
   refine(J.out _ d.out).mono ?_;rintro e w2 ⟨rfl,hb⟩;have o:=qh (hb);have i:=qh (z0a d.out hb);clear hb;obtain⟨q0,q1,q2,q3,q4,q5,q6,q7⟩:=z3j o.out
   go_wp2_with fail
   refine(C2.out _ i.out).mono ?_;rintro e w3 ⟨rfl,hb⟩;clear q0 q1 q2 q3 q4 q5 q6 q7;have S:=qh (z0a o.out hb);have c:=qh (z0a i.out hb);clear hb;obtain⟨q0,q1,q2,q3,q4,q5,q6,q7⟩:=z3j S.out
   go_wp2_with fail
   obtain⟨X,T,Z⟩:=HX.out;obtain⟨s,p,G⟩:=Y.out;obtain⟨l,m,C⟩:=R.out;have B:v≠.low:=z0q OV.out (by decide);have D:u≠.low:=z0q OU.out (by decide);rw[decide_eq_false B] at p;rw[decide_eq_false D] at m;by_cases v1:v=.fin 0
   ·subst v1;simp only[decide_true] at G;clear s p l m C;have g:I=⟨#[48]⟩/\L=0:=by
     have:=k.out;rw[show z0i 3 _ _=.fin 0 from by rw[times23 (by decide) B D,z2f],z9w] at this;injection this with e1 e2;exact⟨e1,e2⟩
    obtain⟨rfl,rfl⟩:=g;refine wp_loop_rounds 4 ?_;rw[rounds_succ];go_wp2;go_ret2;exact⟨rfl,c.out⟩
   rw[decide_eq_false v1] at G;by_cases O:u=.fin 0
   ·subst O;simp only[decide_true] at C;clear s p l m;have g:I=⟨#[48]⟩/\L=0:=by
     have:=k.out;rw[show z0i 3 _ _=.fin 0 from by rw[times23 (by decide) B D,z1y],z9w] at this;injection this with e1 e2;exact⟨e1,e2⟩
    obtain⟨rfl,rfl⟩:=g;refine wp_loop_rounds 4 ?_;rw[rounds_succ];go_wp2;go_ret2;exact⟨rfl,c.out⟩
   rw[decide_eq_false O] at C;by_cases Q:v=.inf
   ·subst Q;simp only[decide_true] at s;clear p l m;have g:I=⟨#[105,110,102]⟩/\L=0:=by
     have:=k.out;rw[show z0i 3 _ _=.inf from by rw[times23 (by decide) B D];unfold mulV;rw[if_neg (fun e=>e.elim v1 O)],z8q] at this;injection this with e1 e2;exact⟨e1,e2⟩
    obtain⟨rfl,rfl⟩:=g;refine wp_loop_rounds 4 ?_;rw[rounds_succ];go_wp2_with fail;rw[rounds_succ];go_wp2;go_ret2;exact⟨rfl,c.out⟩
   rw[decide_eq_false Q] at s;by_cases W:u=.inf
   ·subst W;simp only[decide_true] at l;clear p m;have g:I=⟨#[105,110,102]⟩/\L=0:=by
     have:=k.out;rw[show z0i 3 _ _=.inf from by rw[times23 (by decide) B D];unfold mulV;rw[if_neg (fun e=>e.elim v1 O)];cases v<;>rfl,z8q] at this
     injection this with e1 e2;exact⟨e1,e2⟩
    obtain⟨rfl,rfl⟩:=g;refine wp_loop_rounds 4 ?_;rw[rounds_succ];go_wp2_with fail;rw[rounds_succ];go_wp2;go_ret2;exact⟨rfl,c.out⟩
   rw[decide_eq_false W] at l;cases v with
   | inf=>exact absurd rfl Q
   | low=>exact absurd rfl B
   | fin x =>
    cases u with
    | inf=>exact absurd rfl W
    | low=>exact absurd rfl D
    | fin y =>
     have za:a.size<=9223372036854775807:=by have:=z2x FA.out;rw[EA.out];show (txt x).size<=_;omega
     have zb:b.size<=9223372036854775807:=by have:=z2x FB.out;rw[EB.out];show (txt y).size<=_;omega
     have c3:=fun z (h:Below w.heap.size w z)=>x4a a b z za zb (HT.out.below h nlr);have e3:y7j a b=(I,L):=by
      rw[k.out,times23 (by decide) B D,z1e,EA.out,EB.out];show y7j (txt x) (txt y)=_;unfold y7j;rw[z2k FA.out,z2k FB.out];rfl
     rw[e3] at c3;have C3:=qh c3;clear c3 e3 za zb;refine wp_loop_rounds 4 ?_;rw[rounds_succ];go_wp2_with fail;rw[rounds_succ];go_wp2_with fail;rw[rounds_succ];go_wp2_with fail;rw[rounds_succ];go_wp2_with fail
     go_wp2_with fail
     refine nxb (C3.out _ c.out) c fun w4 a1=>?_;go_wp2;go_ret2;exact⟨rfl,a1.out⟩
theorem x9k (k:Int) (a b:ByteArray) (w:World) (d:k<1\/3<k):Calls prog 44 #[.int .i64 k,.string a,.string b] w (PairEnd (z0n k a b) w):=by
 rw[y0h (y0e d a)];have c0:=x1t k w d;unfold OfEnd at c0;unfold ring0 at *;have g:=qh c0;clear c0
 go_enter func44,ntmps44
 go_wp2_with fail
 refine g.out.mono ?_;rintro e h ⟨rfl,hb⟩;have c:=qh (hb.alloc hb.size (.cells ring0 123));clear hb;go_wp2;go_ret2;exact⟨rfl,c.out⟩
theorem z7c (k:Int) (a b:ByteArray) (w:World) (c:a.size<=9223372036854775807) (hb:b.size<=9223372036854775807) (d:Tab w):Calls prog 44 #[.int .i64 k,.string a,.string b] w (PairEnd (z0n k a b) w):=by
 rcases z2y k with rfl|rfl|rfl|g
 ·exact v6a a b w c hb d
 ·exact v4y a b w c hb d
 ·exact v6d a b w c hb d
 exact x9k k a b w g
end
section
open Go.RowKit
end
section
open Go.RowKit
theorem z9z (v:V):(limV v).1.size<=802:=by
 cases v with
 | inf=>show 3<=802;omega
 | low=>show 4<=802;omega
 | fin q=>exact y9b q
theorem y4z:argS.1.size<=802:=by show 0<=802;omega
theorem x7e (k:Int) (a b:ByteArray):(z1i k a b).1.size<=802:=by unfold z1i;split<;>first|exact z9z _|exact y4z
theorem x2q (k:Int) (a b:ByteArray):(z0n k a b).1.size<=802:=by unfold z0n;split<;>first|exact z9z _|exact y4z
theorem x6w (k:Int) (a:ByteArray):(z5k k a).1.size<=802:=by unfold z5k;split<;>first|exact z9z _|exact y4z
theorem z8e (k:Int):(z1h k).size<=100000:=by
 rcases z2y k with rfl|rfl|rfl|c
 ·rw[x8q];decide
 ·rw[x8s];decide
 ·rw[v0p];decide
 rw[x4t c];decide
theorem v0n (k:Int):(oneF k).size<=100000:=by
 rcases z2y k with rfl|rfl|rfl|c
 ·rw[v8a];decide
 ·rw[v7n];decide
 ·rw[v7u];decide
 rw[x9h c];decide
end
section
open Go.RowKit
end
section
open Go.RowKit
def dval:List Nat->Nat | []=>0|x::xs=>x+10*dval xs
def Dig (xs:List Nat):Prop:=∀ i,nth xs i<10
theorem v6r {xs:List Nat} (h:Dig xs) (k:Nat):Dig (xs.take k):=fun i=>by
 by_cases c:i<k
 ·rw[z8z _ _ _ c];exact h i
 rw[z1p _ _ (by rw[List.length_take];omega)];omega
theorem x2p (xs c:List Nat):dval (xs++c)=dval xs+10 ^ xs.length*dval c:=by
 induction xs with
 | nil=>simp[dval]
 | cons x xs ih=>simp only[List.cons_append,dval,ih,List.length_cons,Nat.pow_succ];rw[Nat.mul_add,Nat.mul_comm (10 ^ xs.length) 10,Nat.mul_assoc];omega
theorem x8g (xs:List Nat) (x:Nat):dval (xs++[x])=dval xs+10 ^ xs.length*x:=by rw[x2p];simp[dval]
theorem z9e (xs:List Nat) (k:Nat):dval (xs.take (k+1))=dval (xs.take k)+10 ^ k*nth xs k:=by
 by_cases h:k<xs.length
 ·rw[y5p xs k h,x8g,List.length_take,Nat.min_eq_left (by omega)]
 rw[List.take_of_length_le (by omega),List.take_of_length_le (by omega),z1p xs k (by omega)];simp
theorem v1a {xs:List Nat} (h:∀ i,nth xs i=0):dval xs=0:=by
 induction xs with
 | nil=>rfl
 | cons x xs ih=>simp only[dval];rw[ih (fun i=>h (i+1)),show x=0 from h 0]
theorem v2d {xs:List Nat} (h:Dig xs):dval xs<10 ^ xs.length:=by
 induction xs with
 | nil=>simp[dval]
 | cons x xs ih =>
  have c:=h 0;rw[z7f] at c;have:=ih (fun i=>h (i+1));simp only[dval,List.length_cons,Nat.pow_succ];omega
def byteOf (d:Nat):UInt8:=UInt8.ofNat (48+d)
theorem byteOf_toNat {d:Nat} (h:d<10):(byteOf d).toNat=48+d:=u8n (by omega)
def bytesOf (xs:List Nat):List UInt8:=xs.reverse.map byteOf
end
section
open Go.RowKit
end
section
open Go.RowKit
end
section
open Go.RowKit
end
section
open Go.RowKit
theorem v9d {L:List Nat} (h:Dig L) (j v:Nat) (d:v<10):Dig (L.set j v):=fun i=>by
 by_cases c:j<L.length
 ·rw[y1a L j v i c];split
  ·exact d
  exact h i
 rw[List.set_eq_of_length_le (by omega)];exact h i
theorem v5j (L:List Nat):∀ (j v:Nat),j<L.length->dval (L.set j v)+10 ^ j*nth L j=dval L+10 ^ j*v:=by
 induction L with
 | nil=>intro j v h;simp at h
 | cons x L ih =>
  intro j v h;cases j with
  | zero=>simp only[List.set_cons_zero,dval,z7f,Nat.pow_zero];omega
  | succ j =>
   have:=ih j v (by simpa using h);simp only[List.set_cons_succ,dval,z5d,Nat.pow_succ];have e:10*(dval (L.set j v)+10 ^ j*nth L j)=10*(dval L+10 ^ j*v):=by rw[this]
   rw[Nat.mul_add,Nat.mul_add,<- Nat.mul_assoc,<- Nat.mul_assoc,Nat.mul_comm 10 (10 ^ j)] at e;omega
theorem v1h (k i:Nat):nth (List.replicate k 0) i=0:=by unfold nth;simp[List.getD_eq_getElem?_getD,List.getElem?_replicate];split<;>rfl
structure MulIR (xs ys L:List Nat) (i k c:Nat):Prop where
 dig:Dig L
 carry:c<10
 len:L.length=xs.length+ys.length+1
 val:dval L+10 ^ (i+k)*c=dval (xs.take i)*dval ys+10 ^ i*(nth xs i*dval (ys.take k))
structure MulOR (xs ys L:List Nat) (i:Nat):Prop where
 dig:Dig L
 len:L.length=xs.length+ys.length+1
 val:dval L=dval (xs.take i)*dval ys
theorem MulOR.start (xs c:List Nat):MulOR xs c (List.replicate (xs.length+c.length+1) 0) 0 :=
 ⟨fun i=>by rw[v1h];omega,by simp,by rw[v1a (v1h _)];simp[dval]⟩
theorem x3c {l c x y:Nat} (d:l<10) (h:c<10) (i:x<10) (g:y<10):l+x*y+c<100:=by
 have:x*y<=9*9:=Nat.mul_le_mul (by omega) (by omega);omega
theorem MulIR.step {xs d L:List Nat} {i k c l x y:Nat} (h:MulIR xs d L i k c) (C:Dig xs) (A:Dig d) (hi:i<xs.length) (E:k<d.length+1) (u:l=nth L (i+k)) (s:x=nth xs i) (z:y=nth d k) :
  MulIR xs d (L.set (i+k) ((l+x*y+c) % 10)) i (k+1) ((l+x*y+c) / 10):=by
 have hb:=x3c (h.dig (i+k)) h.carry (C i) (A k);have o:i+k<L.length:=by rw[h.len];omega
 have m:=v5j L (i+k) ((l+x*y+c) % 10) o;have j:=h.val;have g:=z9e d k;rw[<- u,<- s,<- z] at hb;rw[<- u] at m;rw[<- z] at g;rw[<- s] at j;generalize hp:l+x*y+c=p at *;have D:10 ^ (i+k)*l+10 ^ (i+k)*(x*y)+10 ^ (i+k)*c=10 ^ (i+k)*p:=by rw[<- hp,Nat.mul_add,Nat.mul_add]
 have B:10 ^ (i+k)*p=10 ^ (i+k)*(p % 10)+10 ^ (i+k)*10*(p / 10):=by
  rw[Nat.mul_assoc,<- Nat.mul_add,Nat.mod_add_div]
 refine⟨v9d h.dig _ _ (by omega),by omega,by simp[h.len],?_⟩;rw[g,Nat.mul_add,Nat.mul_add,show i+(k+1)=i+k+1 by omega,Nat.pow_succ 10 (i+k),<- s];have e:10 ^ i*(x*(10 ^ k*y))=10 ^ (i+k)*(x*y):=by
  rw[Nat.pow_add,Nat.mul_left_comm x,Nat.mul_assoc]
 rw[e];omega
theorem MulIR.done {xs d L:List Nat} {i c:Nat} (h:MulIR xs d L i (d.length+1) c) (m:Dig xs) (k:Dig d) (hi:i<xs.length):MulOR xs d L (i+1):=by
 refine⟨h.dig,h.len,?_⟩;have g:=h.val;rw[List.take_of_length_le (by omega:d.length<=d.length+1)] at g;have e:dval (xs.take i)*dval d+10 ^ i*(nth xs i*dval d)=dval (xs.take (i+1))*dval d:=by
  rw[z9e,Nat.add_mul,Nat.mul_assoc]
 rw[e] at g;have l:dval (xs.take (i+1))<10 ^ (i+1):=by
  have:=v2d (v6r m (i+1));rw[List.length_take,Nat.min_eq_left (by omega)] at this;exact this
 have u:=v2d k;have o:dval (xs.take (i+1))*dval d<10 ^ (i+1)*10 ^ d.length:=by
  have p:dval (xs.take (i+1))*dval d<=dval (xs.take (i+1))*10 ^ d.length:=Nat.mul_le_mul_left _ (by omega);have s:dval (xs.take (i+1))*10 ^ d.length<10 ^ (i+1)*10 ^ d.length:=Nat.mul_lt_mul_of_pos_right l (Nat.pow_pos (by omega));omega
 rw[<- Nat.pow_add,show i+1+d.length=i+(d.length+1) by omega] at o
 rcases Nat.eq_zero_or_pos c with j|j
 ·subst j;rw[Nat.mul_zero,Nat.add_zero] at g;exact g
 have:10 ^ (i+(d.length+1))*1<=10 ^ (i+(d.length+1))*c:=Nat.mul_le_mul_left _ j;omega
theorem MulOR.done {xs c L:List Nat} (h:MulOR xs c L xs.length):dval L=dval xs*dval c:=by rw[h.val,List.take_length]
end
section
open Go.RowKit
structure DivI (l:List UInt8) (n:Nat) (qb:List UInt8) (rn i:Nat):Prop where
 len:qb.length=i
 dig:dgts qb=true
 lt:rn<n
 val:num qb*n+rn=num (l.take i)
theorem DivI.start (l:List UInt8) {n:Nat} (h:n≠0):DivI l n [] 0 0:=⟨rfl,rfl,by omega,by simp[num]⟩
theorem x6f {j:Nat} (h:j<10):dgt (byteOf j)=true:=by simp only[dgt,byteOf_toNat h];simp;omega
theorem DivI.step {l:List UInt8} {n:Nat} {g:List UInt8} {k i j m:Nat} {c:UInt8} (h:DivI l n g k i) (o:l.take (i+1)=l.take i++[c]) (p:m<n) (d:j<10) (s:m+j*n=10*k+(c.toNat-48)) :
  DivI l n (g++[byteOf j]) m (i+1):=by
 refine⟨by rw[List.length_append,h.len];rfl,by rw[z7n,h.dig,x6f d];rfl,p,?_⟩;rw[z6d,o,z6d,<- h.val,byteOf_toNat d,show 48+j-48=j by omega,Nat.add_mul,Nat.mul_add,Nat.mul_assoc];omega
structure Strip (l:List UInt8) (k:Nat):Prop where
 lt:k+1<=l.length
 val:num (l.drop k)=num l
theorem Strip.step {l:List UInt8} {k:Nat} (h:Strip l k) (g:k+1<l.length) (d:l[k].toNat=48):Strip l (k+1):=by
 refine⟨by omega,?_⟩;rw[<- h.val,List.drop_eq_getElem_cons (i:=k) (by omega)];generalize l.drop (k+1)=x;show num x=List.foldl (fun n c=>10*n+(c.toNat-48)) (10*0+(l[k].toNat-48)) x;rw[d];rfl
end
section
open Go.RowKit
end
section
open Go.RowKit
end
section
open Go.RowKit
end
section
open Go.RowKit
end
section
open Go.RowKit
end
section
open Go.RowKit
end
section
open Go.RowKit
end
section
open Go.RowKit
end
end Go.Proofs.YteappjogmnogcaaGreatDoor
