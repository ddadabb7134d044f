/- Parts of a proof: EdZ EdB EdR RegI EdF. -/
import Derived.Test.YtjekapjbigfkbaaGreatDoorT13
import Derived.Maps.Own
import Derived.Maps.Views
import Derived.Test.YtjekapjbigfkbaaGreatDoorT09
import Derived.Deep.RegionHeld2
import Derived.WalkKit
import Derived.OwnWalk
import Derived.Test.YtjekapjbigfkbaaGreatDoorT08
namespace Go.Proofs.YtjekapjbigfkbaaGreatDoor
set_option maxRecDepth 100000
set_option linter.unusedSimpArgs false
set_option linter.unusedVariables false
set_option linter.unusedSectionVars false
set_option maxHeartbeats 16000000
open Go Tryz
section
open Go.RowKit Go.Deep
def apE (M:EM) (d:ED):EM:=⟨M.n+1,fun i=>if i=M.n then d else M.e i,M.most⟩
def oneE (mk:Int->ED) (ws:ByteArray) (x:Nat->Int):Nat->EM->EM
 | 0,M=>M
 | i+1,M=>if ws=⟨#[]⟩ then oneE mk ws x i M else apE (oneE mk ws x i M) { mk (x i) with w:=ws }
def rowE (mk:Int->Int->ED) (ws:ByteArray) (x:Nat->Int) (i:Nat):Nat->EM->EM
 | 0,M=>M
 | j+1,M=>if ws≠⟨#[]⟩/\x i≠x j then apE (rowE mk ws x i j M) { mk (x i) (x j) with w:=ws } else rowE mk ws x i j M
def twoE (mk:Int->Int->ED) (ws:ByteArray) (x:Nat->Int) (n:Nat):Nat->EM->EM
 | 0,M=>M
 | i+1,M=>rowE mk ws x i n (twoE mk ws x n i M)
def insD (s:Int):ED:=⟨0,fun _=>0,1,fun _=>s,⟨#[]⟩⟩
def remD (s:Int):ED:=⟨1,fun _=>s,0,fun _=>0,⟨#[]⟩⟩
def repD (s t:Int):ED:=⟨1,fun _=>s,1,fun _=>t,⟨#[]⟩⟩
def swpD (s t:Int):ED:=⟨2,fun k=>if k=0 then s else t,2,fun k=>if k=0 then t else s,⟨#[]⟩⟩
def simE (n:Nat) (x:Nat->Int) (wi wr wp ws:ByteArray) (most:Int):EM:=twoE swpD ws x n n (twoE repD wp x n n (oneE remD wr x n (oneE insD wi x n ⟨0,fun _=>insD 0,most⟩)))
theorem z7j (mk:Int->ED) (ws:ByteArray) (x:Nat->Int) (M:EM):∀ i,(oneE mk ws x i M).most=M.most/\(oneE mk ws x i M).n<=M.n+i
 | 0=>⟨rfl,Nat.le_refl _⟩
 | i+1=>by
  have ih:=z7j mk ws x M i;unfold oneE;split
  ·exact⟨ih.1,by omega⟩
  exact⟨ih.1,by show _+1<=_;omega⟩
theorem y5y (mk:Int->Int->ED) (ws:ByteArray) (x:Nat->Int) (i:Nat) (M:EM):∀ j,(rowE mk ws x i j M).most=M.most/\(rowE mk ws x i j M).n<=M.n+j
 | 0=>⟨rfl,Nat.le_refl _⟩
 | j+1=>by
  have ih:=y5y mk ws x i M j;unfold rowE;split
  ·exact⟨ih.1,by show _+1<=_;omega⟩
  exact⟨ih.1,by omega⟩
theorem z7i (mk:Int->Int->ED) (ws:ByteArray) (x:Nat->Int) (n:Nat) (M:EM):∀ i,(twoE mk ws x n i M).most=M.most/\(twoE mk ws x n i M).n<=M.n+i*n
 | 0=>⟨rfl,by show M.n<=M.n+0*n;omega⟩
 | i+1=>by
  have ih:=z7i mk ws x n M i;have h:=y5y mk ws x i (twoE mk ws x n i M) n;exact⟨h.1.trans ih.1,by show (rowE mk ws x i n _).n<=_;rw[Nat.succ_mul];omega⟩
def SiB (w:World) (v:Value) (n:Nat) (x:Nat->Int):Prop:=(n=0/\v=.slice none 0 0)\/∃ b c f,v=.slice (some ⟨b,0,none⟩) n n/\n<=maxLen/\w.heap[b]?=some (.cells c 3 f)/\∀ i,i<n->c[i]?=some (.int .i64 (x i))
theorem SiB.si {w:World} {v:Value} {n:Nat} {x:Nat->Int} (h:SiB w v n x):Si none w v n x:=by
 rcases h with ⟨rfl,rfl⟩|⟨b,c,f,rfl,d,hb,g⟩
 ·exact x5y w x
 exact z3u hb d g
theorem SiB.shape {w:World} {v:Value} {n:Nat} {x:Nat->Int} (h:SiB w v n x):∃ a c,v=.slice a n c:=by
 rcases h with ⟨rfl,rfl⟩|⟨b,c,f,rfl,_⟩
 ·exact⟨_,_,rfl⟩
 exact⟨_,_,rfl⟩
theorem SiB.kept {w d:World} {v:Value} {n:Nat} {x:Nat->Int} {C:Nat->Prop} (h:SiB w v n x) (k:Fr C w d) (i:∀ b c f,w.heap[b]?=some (.cells c 3 f)->¬ C b):SiB d v n x:=by
 rcases h with h|⟨b,c,f,rfl,g,hb,j⟩
 ·exact .inl h
 exact .inr ⟨b,c,f,rfl,g,(k.block b (lt_of_block hb) (i b c f hb)).trans hb,j⟩
def ed3 (M:EM) (F T:Nat->Value) (i:Nat):List Value:=[F i,T i,.string (M.e i).w]
theorem u1k (M:EM) (F T:Nat->Value) (i:Nat):(ed3 M F T i).length=3:=rfl
structure OwE (w:World) (B:Nat) (sv:Value) (M:EM) (F T:Nat->Value):Prop where
 top:w.ownsRow B 50 3 sv M.n (cat (ed3 M F T) M.n)
 f:∀ i,i<M.n->SiB w (F i) (M.e i).nf (M.e i).f
 t:∀ i,i<M.n->SiB w (T i) (M.e i).nt (M.e i).t
theorem OwE.empty (w:World) (B:Nat) (M:EM) (hn:M.n=0) (F T:Nat->Value):OwE w B (.slice none 0 0) M F T :=
 ⟨by rw[hn];exact World.ownsRow_nil w B _ 3,fun i hi=>by omega,fun i hi=>by omega⟩
theorem OwE.eds {w:World} {B:Nat} {sv:Value} {M:EM} {F T:Nat->Value} (h:OwE w B sv M F T):EdS none w sv M:=by
 rcases h.top.2 with ⟨c,r⟩|⟨g,k,o,c,D,s,z,p,E,C⟩
 ·exact .inl ⟨r,none,0,by rw[c],Nat.zero_le _⟩
 refine .inr ⟨g,0,k,F,T,c,⟨(Array.getElem?_eq_some_iff.1 s).1,by simp⟩,z,p,fun i hi=>?_⟩;have l:=h.top;rw[c] at l;have d:∀ j,j<3->∀ u,(ed3 M F T i)[j]?=some u->w.cell? ⟨g,i*3+j,none⟩=some u:=fun j A u v=>z9k l ((y6t (u1k M F T) A hi).trans v);rw[Nat.zero_add];exact⟨d 0 (by omega) _ rfl,d 1 (by omega) _ rfl,d 2 (by omega) _ rfl,(h.f i hi).si,(h.t i hi).si⟩
theorem OwE.kept {w p:World} {B:Nat} {sv:Value} {M:EM} {F T:Nat->Value} {C:Nat->Prop} (h:OwE w B sv M F T) (k:Fr C w p) (s:∀ b,sv.ownBlock=some b->¬ C b) (r:∀ b c f,w.heap[b]?=some (.cells c 3 f)->¬ C b):OwE p B sv M F T:=by
 refine⟨?_,fun i hi=>(h.f i hi).kept k r,fun i hi=>(h.t i hi).kept k r⟩;refine⟨h.top.1,?_⟩
 rcases h.top.2 with u|⟨g,d,j,o,v,l,z⟩
 ·exact .inl u
 exact .inr ⟨g,d,j,o,v,(k.block g (lt_of_block l) (s g (by rw[o];rfl))).trans l,z⟩
theorem OwE.new {w c:World} {B:Nat} {sv:Value} {M:EM} {F T:Nat->Value} (h:OwE w B sv M F T) (d:Fr (fun _=>False) w c):OwE c B sv M F T:=h.kept d (fun _ _ e=>e) (fun _ _ _ _ e=>e)
structure SmI (w0 w:World) (lb mb n:Nat) (lv:Value) (x:Nat->Int) (M:EM) (sv:Value) (F T:Nat->Value):Prop where
 kl:Bx w lb 27 lv
 km:BxE w mb sv M.most
 own:OwE w w0.heap.size sv M F T
 be:Below w0.heap.size w0 w
 ll:w0.heap.size<=lb
 lm:w0.heap.size<=mb
 lx:Si none w0 lv n x
section
variable {w0 w w' w1 we:World} {lb mb n:Nat} {lv:Value} {x:Nat->Int} {M:EM} {sv:Value} {F T:Nat->Value}
theorem SmI.new (h:SmI w0 w lb mb n lv x M sv F T) (c:Fr (fun _=>False) w w'):SmI w0 w' lb mb n lv x M sv F T :=
 ⟨h.kl.kept c (fun e=>e),(c.block mb (lt_of_block h.km) (fun e=>e)).trans h.km,h.own.new c,h.be.trans (c.below h.be.size (fun _ e=>e.elim)),h.ll,h.lm,h.lx⟩
theorem SmI.c0 (h:SmI w0 w lb mb n lv x M sv F T):w.cell? ⟨mb,0,none⟩=some sv:=cell_of h.km 0 rfl
theorem SmI.svtb (h:SmI w0 w lb mb n lv x M sv F T):sv.ownBlock≠some mb:=z3d h.own.top h.km (by decide)
theorem SmI.add (h:SmI w0 w lb mb n lv x M sv F T) {o:Obj} {go cp:Nat} {d:ED} {u C:Value} (K:SiB w u d.nf d.f) (J:SiB w C d.nt d.t)
  (k:we.ownsRow w0.heap.size 50 3 (.slice (some ⟨go,0,none⟩) (M.n+1) cp) (M.n+1) (cat (ed3 M F T) M.n++[u,C,.string d.w])) (l:(w.alloc o).grownBy we sv.ownBlock) :
  SmI w0 (we.setCell ⟨mb,0,none⟩ (.slice (some ⟨go,0,none⟩) (M.n+1) cp)) lb mb n lv x (apE M d) (.slice (some ⟨go,0,none⟩) (M.n+1) cp) (fun i=>if i=M.n then u else F i) (fun i=>if i=M.n then C else T i):=by
 have v:Fr (fun _=>False) w (w.alloc o):=Fr.alloc _ _;have E:=h.new v;have A:Fr (fun q=>sv.ownBlock=some q) (w.alloc o) we:=Fr.of_gb l (fun _ e=>e);have s:BxE we mb sv M.most:=(A.block mb (lt_of_block E.km) (fun e=>E.svtb e)).trans E.km;have D:(Value.slice (some ⟨go,0,none⟩) (M.n+1) cp).ownBlock≠some mb:=z3d k s (by decide);have B:Fr (fun q=>q=mb) we (we.setCell ⟨mb,0,none⟩ (.slice (some ⟨go,0,none⟩) (M.n+1) cp)):=(Fr.refl (fun q=>q=mb) we).set (p:=⟨mb,0,none⟩) (.inl rfl) _;have g:Fr (fun q=>sv.ownBlock=some q\/q=mb) w (we.setCell ⟨mb,0,none⟩ (.slice (some ⟨go,0,none⟩) (M.n+1) cp)) :=
  ((v.mono (fun _ _ e=>e.elim)).trans (A.mono (fun _ _ e=>.inl e))).trans (B.mono (fun _ _ e=>.inr e))
 have j:∀ b c f,w.heap[b]?=some (.cells c 3 f)->¬ (sv.ownBlock=some b\/b=mb):=fun b c f hb e=>by
  rcases e with e|e
  ·exact z3d h.own.top hb (by decide) e
  subst e;have:=h.km;unfold BxE at this;rw[hb] at this;simp at this
 refine⟨?_,?_,⟨?_,fun i hi=>?_,fun i hi=>?_⟩,?_,h.ll,h.lm,h.lx⟩
 ·refine Bx.kept h.kl g (fun e=>?_)
  rcases e with e|e
  ·exact z3d h.own.top h.kl (by decide) e
  subst e;have H:=h.km;have G:=h.kl;unfold BxE at H;unfold Bx at G;rw[H] at G;simp at G
 ·unfold BxE;unfold BxE at s;simp[World.setCell,Array.getElem?_modify,s];rfl
 ·have I:=z2g k (z:=some mb) (Fr.gb (B.mono (fun q _ e=>by rw[e]))) (fun b hb e=>D (by rw[hb,e]));have L:cat (ed3 (apE M d) (fun i=>if i=M.n then u else F i) (fun i=>if i=M.n then C else T i)) (M.n+1)=cat (ed3 M F T) M.n++[u,C,.string d.w]:=by
   rw[z5z]
   congr 1
   ·refine z6g fun i hi=>?_;unfold ed3 apE;simp[show i≠M.n by omega]
   unfold ed3 apE;simp
  show World.ownsRow _ _ _ _ _ (M.n+1) (cat _ (M.n+1));rw[L];exact I
 ·by_cases e:i=M.n
  ·unfold apE;simp only[if_pos e];exact K.kept g j
  have r:i<M.n:=by have:i<M.n+1:=hi;omega
  unfold apE;simp only[if_neg e];exact(h.own.f i r).kept g j
 ·by_cases e:i=M.n
  ·unfold apE;simp only[if_pos e];exact J.kept g j
  have r:i<M.n:=by have:i<M.n+1:=hi;omega
  unfold apE;simp only[if_neg e];exact(h.own.t i r).kept g j
 refine h.be.trans (g.below h.be.size (fun q e=>?_))
 rcases e with e|e
 ·exact(World.ownsRow.lt h.own.top q e).1
 rw[e];exact h.lm
end
theorem x2g:(prog.info? 50).map (fun i=>(i.zero,i.size,i.bytes))=some (some (.agg #[.slice none 0 0,.slice none 0 0,.string ⟨#[]⟩]),3,64):=by kernel_rfl
theorem x1f {a b:Option Addr} {n m c e:Nat} {s:ByteArray}:∀ u ∈ [Value.slice a n c,Value.slice b m e,Value.string s],u.oneCell'=true:=by intro u d;simp at d;rcases d with rfl|rfl|rfl<;>rfl
def MkR (d:ED) (w:World) (r:Ending) (w':World):Prop:=Below w.heap.size w w'/\∃ F T,r=.returned (.agg #[F,T,.string ⟨#[]⟩])/\SiB w' F d.nf d.f/\SiB w' T d.nt d.t
def Mk1 (f:FuncId) (mk:Int->ED):Prop:=(∀ args w,(callFunc f args).run prog w=.ok (.enter f args) w)/\∀ (s:Int) (w:World),Calls prog f #[.int .i64 s] w (MkR (mk s) w)
def Mk2' (f:FuncId) (mk:Int->Int->ED):Prop:=(∀ args w,(callFunc f args).run prog w=.ok (.enter f args) w)/\∀ (s t:Int) (w:World),Calls prog f #[.int .i64 s,.int .i64 t] w (MkR (mk s t) w)
theorem v6b {w:World} {b:Nat} {F T:Value} {s:ByteArray} (h:w.heap[b]?=some (.cells #[F,T,.string s] 50 (0,0))):w.rangeAt b 0 [F,T,.string s]:=by
 intro j v c;have d:j<3:=by have:=(List.getElem?_eq_some_iff.1 c).1;simpa using this
 have:j=0\/j=1\/j=2:=by omega
 rcases this with rfl|rfl|rfl<;>(simp at c;subst c;simp[World.cell?,h])
theorem v3c {w:World} {b:Nat} {F T:Value} {s:ByteArray} (h:w.heap[b]?=some (.cells #[F,T,.string s] 50 (0,0))):(loadVar 50 ⟨b,0,none⟩).run prog w=.ok (.agg #[F,T,.string s]) w :=
 run_loadVar_mid (P:=prog) w b 0 50 [F,T,.string s] _ (v6b h) underlying50 rfl (by kernel_rfl)
theorem y0b {fn:Func} {p:Tmp} (h:fn.results=#[.cell p 50]) (c:Array Value) {w:World} {b:Nat} {F T:Value} {s:ByteArray} (d:c.getD p undef=.pointer (some ⟨b,0,none⟩)) (hb:w.heap[b]?=some (.cells #[F,T,.string s] 50 (0,0))) :
  (results fn c).run prog w=.ok (.agg #[F,T,.string s]) w:=by
 rw[z9e h,d];show ((loadVar 50 ⟨b,0,none⟩).run prog w)=_;exact v3c hb
theorem y2v {w:World} {b n:Nat} {c:Array Value} {f:Nat × Nat} {x:Nat->Int} (h:w.heap[b]?=some (.cells c 3 f)) (hn:n<=maxLen) (d:∀ i,i<n->c[i]?=some (.int .i64 (x i))):SiB w (.slice (some ⟨b,0,none⟩) n n) n x:=.inr ⟨b,c,f,rfl,hn,h,d⟩
theorem v2w (w:World) (x:Nat->Int):SiB w (.slice none 0 0) 0 x:=.inl ⟨rfl,rfl⟩
theorem u4b:Mk1 63 insD:=by
 refine⟨fun g w=>by kernel_rfl,fun s w=>?_⟩
 go_enter func63,ntmps63
 go_wp2_with fail
 obtain⟨l,d⟩:=exq ([Obj.cells #[.slice none 0 0,.slice (some ⟨w.heap.size+1,0,none⟩) 1 1,.string ⟨#[]⟩] 50,.cells #[.int .i64 s] 3]);have j:(allocs w l).heap[w.heap.size+0]?=_:=z0h l w (i:=0) (by rw[d];rfl);have h:(allocs w l).heap[w.heap.size+1]?=_:=z0h l w (i:=1) (by rw[d];rfl);have c:=z1q l w w w.heap.size (Below.refl _ _) (Nat.le_refl _);subst d;exact bodyPost_ret (y0b rfl _ (b:=w.heap.size) rfl j) rfl ⟨c,_,_,rfl,v2w _ _,y2v h z6e (lt1 rfl)⟩
theorem u4e:Mk1 64 remD:=by
 refine⟨fun g w=>by kernel_rfl,fun s w=>?_⟩
 go_enter func64,ntmps64
 go_wp2_with fail
 obtain⟨l,d⟩:=exq ([Obj.cells #[.slice (some ⟨w.heap.size+1,0,none⟩) 1 1,.slice none 0 0,.string ⟨#[]⟩] 50,.cells #[.int .i64 s] 3]);have j:(allocs w l).heap[w.heap.size+0]?=_:=z0h l w (i:=0) (by rw[d];rfl);have h:(allocs w l).heap[w.heap.size+1]?=_:=z0h l w (i:=1) (by rw[d];rfl);have c:=z1q l w w w.heap.size (Below.refl _ _) (Nat.le_refl _);subst d;exact bodyPost_ret (y0b rfl _ (b:=w.heap.size) rfl j) rfl ⟨c,_,_,rfl,y2v h z6e (lt1 rfl),v2w _ _⟩
theorem u4v:Mk2' 65 repD:=by
 refine⟨fun g w=>by kernel_rfl,fun s t w=>?_⟩
 go_enter func65,ntmps65
 go_wp2_with fail
 obtain⟨l,c⟩:=exq ([Obj.cells #[.slice (some ⟨w.heap.size+1,0,none⟩) 1 1,.slice (some ⟨w.heap.size+2,0,none⟩) 1 1,.string ⟨#[]⟩] 50,.cells #[.int .i64 s] 3,.cells #[.int .i64 t] 3]);have k:(allocs w l).heap[w.heap.size+0]?=_:=z0h l w (i:=0) (by rw[c];rfl);have h:(allocs w l).heap[w.heap.size+1]?=_:=z0h l w (i:=1) (by rw[c];rfl);have j:(allocs w l).heap[w.heap.size+2]?=_:=z0h l w (i:=2) (by rw[c];rfl);have d:=z1q l w w w.heap.size (Below.refl _ _) (Nat.le_refl _);subst c;exact bodyPost_ret (y0b rfl _ (b:=w.heap.size) rfl k) rfl ⟨d,_,_,rfl,y2v h z6e (lt1 rfl),y2v j z6e (lt1 rfl)⟩
theorem u4r:Mk2' 66 swpD:=by
 refine⟨fun g w=>by kernel_rfl,fun s t w=>?_⟩
 go_enter func66,ntmps66
 go_wp2_with fail
 obtain⟨l,c⟩:=exq ([Obj.cells #[.slice (some ⟨w.heap.size+1,0,none⟩) 2 2,.slice (some ⟨w.heap.size+2,0,none⟩) 2 2,.string ⟨#[]⟩] 50,.cells #[.int .i64 s,.int .i64 t] 3,.cells #[.int .i64 t,.int .i64 s] 3]);have k:(allocs w l).heap[w.heap.size+0]?=_:=z0h l w (i:=0) (by rw[c];rfl);have h:(allocs w l).heap[w.heap.size+1]?=_:=z0h l w (i:=1) (by rw[c];rfl);have j:(allocs w l).heap[w.heap.size+2]?=_:=z0h l w (i:=2) (by rw[c];rfl);have d:=z1q l w w w.heap.size (Below.refl _ _) (Nat.le_refl _);subst c;exact bodyPost_ret (y0b rfl _ (b:=w.heap.size) rfl k) rfl ⟨d,_,_,rfl,y2v h y2g (lt2 rfl rfl),y2v j y2g (lt2 rfl rfl)⟩
def SmE (w0:World) (lb mb n:Nat) (lv:Value) (x:Nat->Int) (M:EM) (r:Ending) (w':World):Prop:=r=.returned (.tuple #[])/\∃ sv F T,SmI w0 w' lb mb n lv x M sv F T
theorem y7i {B:World} {lb k n f:Nat} {lv:Value} {x:Nat->Int} {M:EM} {sv:Value} {F T:Nat->Value} {mk:Int->ED} (ws:ByteArray) (w:World) (h:SmI B w lb k n lv x M sv F T) (hf:Mk1 f mk) (hn:n<=100) (hM:M.n<=90000) :
  Calls prog 61 #[.string ws,.func (.func f) #[] #[],.pointer (some ⟨lb,0,none⟩),.pointer (some ⟨k,0,none⟩)] w (SmE B lb k n lv x (oneE mk ws x n M)):=by
 obtain⟨e0,b3⟩:=hf;obtain⟨i0,P,U,Q,b0⟩:=z4u x2g;have d4:=qh P;clear P;have d5:=qh U;clear U;have d0:=qh Q;clear Q;have c9:=qh b0;clear b0;have b6:=qh b3;clear b3;obtain⟨al,cl,bl,ol,c7,O,b7,a3,a9,z⟩:=h.lx.open;subst c7;have c0:=h.kl.cell;have HH:=qh (show ∃ sv F T,SmI B w lb k n (.slice al n cl) x M sv F T from ⟨sv,F,T,h⟩);clear h;have HA:=qh O;clear O;have c6:=qh a9;clear a9;have d7:=qh z;clear z;clear b7 a3
 go_enter func61,ntmps61
 go_wp2_with fail
 clear c0
 go_loopw [11] (fun E wr=>∃ i:Nat,i<=n/\E=.int .i64 (i:Int)/\∃ sv F T,SmI B wr lb k n (.slice al n cl) x (oneE mk ws x i M) sv F T) (fun E _=>n-(intOf E).toNat)
 case atStart=>exact⟨0,Nat.zero_le _,rfl,HH.out⟩
 obtain⟨i,hi,rfl,sv,F,T,j⟩:=hrel;clear HH;have r:=qh j;clear j;by_cases b8:i<n
 ·have d9:(i:Int)<(n:Int):=by omega
  have d8:(0:Int)<=(i:Int):=by omega
  obtain rfl:=HA.out (by omega);have c1:=(r.out.be.cell (p:=⟨bl,ol+i,none⟩) (c6.out (by omega)).1).trans (d7.out i b8);have b1:=z7j mk ws x M i;have G:oneE mk ws x (i+1) M=if ws=⟨#[]⟩ then oneE mk ws x i M else apE (oneE mk ws x i M) { mk (x i) with w:=ws }:=rfl
  obtain⟨c,a2⟩:=exq (oneE mk ws x i M);rw[<- a2] at r b1 G;have b2:=qh G;clear G a2;obtain⟨S,a5⟩:=b1;have e3:c.n<=91000:=by omega
  clear S a5;cases hO:(ws.toList==[])
  ·have R:ws≠⟨#[]⟩:=fun e=>by rw[e] at hO;simp at hO
   have HN:=qh (b2.out.trans (if_neg R));clear R
   go_wp2_with fail
   refine(b6.out (x i) wr).mono ?_;rintro rr l ⟨a1,Fd,Td,rfl,hF,K⟩;obtain⟨I,J,d1⟩:=hF.shape;obtain⟨g,L,b5⟩:=K.shape;subst d1 b5;have H:=qh (r.out.new (Fr.of_below a1));obtain⟨W,sc,c8,_,_⟩:=z5r H.out.own.top;subst c8;obtain⟨d,hd⟩:∃ d:ED,d={ mk (x i) with w:=ws }:=⟨_,rfl⟩;have Z:d.w=ws:=by rw[hd]
   have X:SiB l (.slice I (mk (x i)).nf J) d.nf d.f:=by rw[hd];exact hF
   have a4:SiB l (.slice g (mk (x i)).nt L) d.nt d.t:=by rw[hd];exact K
   rw[<- hd] at HN;clear hF K hd a1;obtain⟨o,ho⟩:=exq (Obj.cells #[.slice I (mk (x i)).nf J,.slice g (mk (x i)).nt L,.string ws] 50);have v:=H.out.new (Fr.alloc l o);have b4:=X.kept (Fr.alloc (C:=fun _=>False) l o) (fun _ _ _ _ e=>e);have a8:=a4.kept (Fr.alloc (C:=fun _=>False) l o) (fun _ _ _ _ e=>e);have c0:(l.alloc o).cell? ⟨k,0,none⟩=some (.slice W c.n sc):=v.c0;have D:∀ (A:World) (Y cp:Nat),A.ownsRow B.heap.size 50 3 (.slice (some ⟨Y,0,none⟩) (c.n+1) cp) (c.n+1) (cat (ed3 c F T) c.n++[.slice I (mk (x i)).nf J,.slice g (mk (x i)).nt L,.string ws])->((l.alloc o).alloc o).grownBy A (Value.slice W c.n sc).ownBlock ->
     (∃ sv F T,SmI B (A.setCell ⟨k,0,none⟩ (.slice (some ⟨Y,0,none⟩) (c.n+1) cp)) lb k n (.slice (some ⟨bl,ol,none⟩) n cl) x (apE c d) sv F T)/\A.cell? ⟨k,0,none⟩=some (.slice W c.n sc)/\A.frozen? ⟨k,0,none⟩=false:=fun A Y cp h1 h2=>by
    rw[<- Z] at h1;have h3:=v.new (Fr.alloc (l.alloc o) o);have h4:BxE A k (.slice W c.n sc) c.most:=(h2.block k (lt_of_block h3.km) (fun e=>h3.svtb e.symm)).trans h3.km;exact⟨⟨_,_,_,v.add b4 a8 h1 h2⟩,cell_of h4 0 rfl,by unfold BxE at h4;simp[World.frozen?,h4]⟩
   have e5:B.heap.size<=l.heap.size:=H.out.be.size;have N:=qh D;clear D;have d3:=qh v;clear v X a4 b4 a8 Z;subst ho
   go_wp2_with (at_builtin;refine wpList_append_lies _ rfl (.tmp 23) (.tmp 25) 22 rfl B.heap.size 50 i0 (.agg #[.slice none 0 0,.slice none 0 0,.string ⟨#[]⟩]) 3 64 underlying22 d4.out d5.out d0.out c9.out rfl (by omega) (.slice W c.n sc) c.n _ (by first|rfl|simp[Act.eval,Act.put]) (World.ownsRow.alloc d3.out.own.top _) ⟨l.heap.size+1,0,none⟩ 1 1 [.slice I (mk (x i)).nf J,.slice g (mk (x i)).nt L,.string ws] (by first|rfl|simp[Act.eval,Act.put]) rfl (y6e (cs:=#[.slice I (mk (x i)).nf J,.slice g (mk (x i)).nt L,.string ws]) (by rw[show l.heap.size+1=(l.alloc (.cells #[.slice I (mk (x i)).nf J,.slice g (mk (x i)).nt L,.string ws] 50)).heap.size by simp];exact heap_alloc_new _ _)) x1f (by omega) (by unfold maxLen;omega) (by omega) (by simp;omega) _ rfl ?_;intro Y cp A s u d2 d6;obtain⟨K,e4,f4⟩:=N.out A Y cp s u;have b9:=qh K;clear K s u d2 d6)
   go_roundw
   case rel=>exact⟨i+1,by omega,by go_num,by rw[HN.out];exact b9.out⟩
   simp[intOf];omega
  have HN:=qh (b2.out.trans (if_pos (z4j hO)))
  go_wp2_with fail
  go_roundw
  case rel=>exact⟨i+1,by omega,by go_num,_,_,_,by rw[HN.out];exact r.out⟩
  simp[intOf];omega
 have a6:i=n:=by omega
 have e1:¬ ((i:Int)<(n:Int)):=by omega
 have j:=r.out;rw[a6] at j;have a7:=qh j;clear j a6
 go_wp2_with fail
 go_end0
 exact⟨rfl,_,_,_,a7.out⟩
theorem y7m {L:World} {lb v n f:Nat} {lv:Value} {x:Nat->Int} {M:EM} {sv:Value} {F T:Nat->Value} {mk:Int->Int->ED} (ws:ByteArray) (w:World) (h:SmI L w lb v n lv x M sv F T) (hf:Mk2' f mk) (hn:n<=100) (hM:M.n<=90000) :
  Calls prog 62 #[.string ws,.func (.func f) #[] #[],.pointer (some ⟨lb,0,none⟩),.pointer (some ⟨v,0,none⟩)] w (SmE L lb v n lv x (twoE mk ws x n n M)):=by
 obtain⟨g0,c7⟩:=hf;obtain⟨i0,a4,a6,a5,c6⟩:=z4u x2g;have e9:=qh a4;clear a4;have f0:=qh a6;clear a6;have e5:=qh a5;clear a5;have e0:=qh c6;clear c6;have d2:=qh c7;clear c7;obtain⟨al,cl,bl,ol,d8,a3,d3,b5,c8,I⟩:=h.lx.open;subst d8;have c0:=h.kl.cell;have HH:=qh (show ∃ sv F T,SmI L w lb v n (.slice al n cl) x M sv F T from ⟨sv,F,T,h⟩);clear h;have HA:=qh a3;clear a3;have b1:=qh c8;clear c8;have d0:=qh I;clear I;clear d3 b5;have b6:n*n<=10000:=Nat.mul_le_mul hn hn;have d7:=qh b6;clear b6
 go_enter func62,ntmps62
 go_wp2_with fail
 clear c0
 go_loopw [13] (fun O wr=>∃ i:Nat,i<=n/\O=.int .i64 (i:Int)/\∃ sv F T,SmI L wr lb v n (.slice al n cl) x (twoE mk ws x n i M) sv F T) (fun O _=>n-(intOf O).toNat)
 case atStart=>exact⟨0,Nat.zero_le _,rfl,HH.out⟩
 obtain⟨i,hi,rfl,sv,F,T,g⟩:=hrel;clear HH;obtain⟨wo,rfl⟩:∃ wo:World,wo=wr:=⟨_,rfl⟩;have c:=qh g;clear g;by_cases d5:i<n
 ·have f9:(i:Int)<(n:Int):=by omega
  have f7:(0:Int)<=(i:Int):=by omega
  obtain rfl:=HA.out (by omega);have c1:=(c.out.be.cell (p:=⟨bl,ol+i,none⟩) (b1.out (by omega)).1).trans (d0.out i d5);have c0:=c.out.kl.cell;have G:=(z7i mk ws x n M i).2;have k:twoE mk ws x n (i+1) M=rowE mk ws x i n (twoE mk ws x n i M):=rfl;obtain⟨J,b4⟩:=exq (twoE mk ws x n i M);rw[<- b4] at c G k;have f1:=qh k;clear k b4;have a1:i*n<=n*n:=Nat.mul_le_mul_right n hi;have g2:J.n<=101000:=by have:=d7.out;omega
  clear G a1;obtain⟨l,R⟩:=exq (x i);rw[<- R] at c1;have d4:=qh R;clear R
  go_wp2_with fail
  clear c0 c1
  go_loopw [19] (fun S wr=>∃ j:Nat,j<=n/\S=.int .i64 (j:Int)/\∃ sv F T,SmI L wr lb v n (.slice (some ⟨bl,ol,none⟩) n cl) x (rowE mk ws x i j J) sv F T) (fun S _=>n-(intOf S).toNat)
  case atStart=>exact⟨0,Nat.zero_le _,rfl,_,_,_,c.out⟩
  obtain⟨j,hj,rfl,sv,F,T,g⟩:=hrel;clear c;have c:=qh g;clear g;by_cases e3:j<n
  ·have g1:(j:Int)<(n:Int):=by omega
   have f5:(0:Int)<=(j:Int):=by omega
   have c1:=(c.out.be.cell (p:=⟨bl,ol+j,none⟩) (b1.out (by omega)).1).trans (d0.out j e3);have G:=(y5y mk ws x i J j).2;have k:rowE mk ws x i (j+1) J=if ws≠⟨#[]⟩/\x i≠x j then apE (rowE mk ws x i j J) { mk (x i) (x j) with w:=ws } else rowE mk ws x i j J:=rfl
   obtain⟨s,a9⟩:=exq (rowE mk ws x i j J);obtain⟨r,b3⟩:=exq (x j);rw[<- b3] at c1 k;rw[<- d4.out] at k;rw[<- a9] at c G k;have A:=qh k;clear k a9;have f8:s.n<=102000:=by omega
   clear G b3;cases hO:(ws.toList==[])
   ·have P:ws≠⟨#[]⟩:=fun e=>by rw[e] at hO;simp at hO
    cases Q:(l==r)
    ·have Y:=qh (A.out.trans (if_pos ⟨P,fun e=>by rw[e] at Q;simp at Q⟩));clear P
     go_wp2_with fail
     refine(d2.out l r wr).mono ?_;rintro rr z ⟨b2,Fd,Td,rfl,hF,Z⟩;obtain⟨W,X,e6⟩:=hF.shape;obtain⟨u,ct,d1⟩:=Z.shape;subst e6 d1;have U:=qh (c.out.new (Fr.of_below b2));obtain⟨sa,sc,d9,_,_⟩:=z5r U.out.own.top;subst d9;obtain⟨d,hd⟩:∃ d:ED,d={ mk l r with w:=ws }:=⟨_,rfl⟩;have b0:d.w=ws:=by rw[hd]
     have a8:SiB z (.slice W (mk l r).nf X) d.nf d.f:=by rw[hd];exact hF
     have b7:SiB z (.slice u (mk l r).nt ct) d.nt d.t:=by rw[hd];exact Z
     rw[<- hd] at Y;clear hF Z hd b2;obtain⟨o,ho⟩:=exq (Obj.cells #[.slice W (mk l r).nf X,.slice u (mk l r).nt ct,.string ws] 50);have H:=U.out.new (Fr.alloc z o);have c9:=a8.kept (Fr.alloc (C:=fun _=>False) z o) (fun _ _ _ _ e=>e);have b9:=b7.kept (Fr.alloc (C:=fun _=>False) z o) (fun _ _ _ _ e=>e);have c0:(z.alloc o).cell? ⟨v,0,none⟩=some (.slice sa s.n sc):=H.c0;have N:∀ (K:World) (go cp:Nat),K.ownsRow L.heap.size 50 3 (.slice (some ⟨go,0,none⟩) (s.n+1) cp) (s.n+1) (cat (ed3 s F T) s.n++[.slice W (mk l r).nf X,.slice u (mk l r).nt ct,.string ws])->((z.alloc o).alloc o).grownBy K (Value.slice sa s.n sc).ownBlock ->
       (∃ sv F T,SmI L (K.setCell ⟨v,0,none⟩ (.slice (some ⟨go,0,none⟩) (s.n+1) cp)) lb v n (.slice (some ⟨bl,ol,none⟩) n cl) x (apE s d) sv F T)/\K.cell? ⟨v,0,none⟩=some (.slice sa s.n sc)/\K.frozen? ⟨v,0,none⟩=false:=fun K go cp h1 h2=>by
      rw[<- b0] at h1;have h3:=H.new (Fr.alloc (z.alloc o) o);have h4:BxE K v (.slice sa s.n sc) s.most:=(h2.block v (lt_of_block h3.km) (fun e=>h3.svtb e.symm)).trans h3.km;exact⟨⟨_,_,_,H.add c9 b9 h1 h2⟩,cell_of h4 0 rfl,by unfold BxE at h4;simp[World.frozen?,h4]⟩
     have g3:L.heap.size<=z.heap.size:=U.out.be.size;have a2:=qh N;clear N;have e8:=qh H;clear H a8 b7 c9 b9 b0;subst ho
     go_wp2_with (at_builtin;refine wpList_append_lies _ rfl (.tmp 37) (.tmp 39) 22 rfl L.heap.size 50 i0 (.agg #[.slice none 0 0,.slice none 0 0,.string ⟨#[]⟩]) 3 64 underlying22 e9.out f0.out e5.out e0.out rfl (by omega) (.slice sa s.n sc) s.n _ (by first|rfl|simp[Act.eval,Act.put]) (World.ownsRow.alloc e8.out.own.top _) ⟨z.heap.size+1,0,none⟩ 1 1 [.slice W (mk l r).nf X,.slice u (mk l r).nt ct,.string ws] (by first|rfl|simp[Act.eval,Act.put]) rfl (y6e (cs:=#[.slice W (mk l r).nf X,.slice u (mk l r).nt ct,.string ws]) (by rw[show z.heap.size+1=(z.alloc (.cells #[.slice W (mk l r).nf X,.slice u (mk l r).nt ct,.string ws] 50)).heap.size by simp];exact heap_alloc_new _ _)) x1f (by omega) (by unfold maxLen;omega) (by omega) (by simp;omega) _ rfl ?_;intro go cp K B E e7 f2;obtain⟨Z,e4,f4⟩:=a2.out K go cp B E;have d6:=qh Z;clear Z B E e7 f2)
     go_roundw
     case rel=>exact⟨j+1,by omega,by go_num,by rw[Y.out];exact d6.out⟩
     simp[intOf];omega
    have Y:=qh (A.out.trans (if_neg (fun h=>h.2 (eq_of_beq Q))));clear P
    go_wp2_with fail
    go_roundw
    case rel=>exact⟨j+1,by omega,by go_num,_,_,_,by rw[Y.out];exact c.out⟩
    simp[intOf];omega
   have Y:=qh (A.out.trans (if_neg (fun h=>h.1 (z4j hO))))
   go_wp2_with fail
   go_roundw
   case rel=>exact⟨j+1,by omega,by go_num,_,_,_,by rw[Y.out];exact c.out⟩
   simp[intOf];omega
  have a7:j=n:=by omega
  have e1:¬ ((j:Int)<(n:Int)):=by omega
  have g:=c.out;rw[a7,<- f1.out] at g;have D:=qh g;clear g a7
  go_wp2_with fail
  go_roundw
  case rel=>exact⟨i+1,by omega,by go_num,_,_,_,D.out⟩
  simp[intOf];omega
 have b8:i=n:=by omega
 have e1:¬ ((i:Int)<(n:Int)):=by omega
 have g:=c.out;rw[b8] at g;have D:=qh g;clear g b8
 go_wp2_with fail
 go_end0
 exact⟨rfl,_,_,_,D.out⟩
end
section
open Go.RowKit Go.Deep
def memB (n:Nat) (x:Nat->Int) (s:Int):Bool:=(List.range n).any fun j=>x j==s
theorem x9q (n:Nat) (x:Nat->Int) (s:Int):memB (n+1) x s=(memB n x s||x n==s):=by simp[memB,List.range_succ]
def nodB (n:Nat) (x:Nat->Int):Bool:=(List.range n).all fun i=>!memB i x (x i)
theorem x4r {n:Nat} {x:Nat->Int}:nodB n x=true↔∀ i,i<n->memB i x (x i)=false:=by simp[nodB]
def cstB (w:ByteArray):Bool:=decide (w=⟨#[]⟩)||y3y w
def okS (n:Nat) (x:Nat->Int) (ci cr cp cs:ByteArray) (most:Int):Bool:=(z3m n x 500&&nodB n x)&&((cstB ci&&cstB cr)&&(cstB cp&&cstB cs))&&(decide (0<=most)&&decide (most<=6))
def y6z:EM:=⟨0,fun _=>insD 0,0⟩
def simR (n:Nat) (x:Nat->Int) (ci cr cp cs:ByteArray) (most:Int):EM × Nat :=
 if okS n x ci cr cp cs most=false then (y6z,1) else if 400<(simE n x ci cr cp cs most).n then (y6z,2) else (simE n x ci cr cp cs most,0)
def NewR (z:EM × Nat) (w:World) (r:Ending) (w':World):Prop:=Below w.heap.size w w'/\∃ sv,r=.returned (.tuple #[.agg #[sv,.int .i64 z.1.most],.int .i64 (z.2:Int)])/\EdS none w' sv z.1
def MpI (w:World) (pb q:Nat) (x:Nat->Int):Prop:=∃ D:DataW Unit,w.ownsMap prog 3 (plainElem prog 4) pb q D/\Maps.IsMap D/\∀ s:Int,D.atKey (.int .i64 s) (.lit (.bool false))=.lit (.bool (memB q x s))
theorem kInt:Maps.Keyed prog 3:=Maps.int_keyed underlying3
theorem keyI {s:Int} (d:1<=s) (c:s<=500):keyOf prog 3 (.int .i64 s)=some (.int .i64 s):=Maps.keyOf_int_mk underlying3 (by simp[Lit.wf,IntKind.min,IntKind.max,IntKind.signed,IntKind.bits];omega)
theorem u5m (w:World):(zeroValue 4).run prog w=.ok (.bool false) w:=by kernel_rfl
theorem x9f {v:Value} {b:Bool} {c:List MemPlace} (h:plainElem (H:=Unit) prog 4 v=some (.lit (.bool b),c)):v=.bool b:=by
 unfold plainElem at h;rw[underlying4] at h;cases v<;>simp at h
 rw[h.1]
theorem MpI.made (w:World) (x:Nat->Int):MpI (w.alloc (.map #[] 0)) w.heap.size 0 x:=⟨.map [],World.ownsMap_made w _ _ _,⟨[],rfl⟩,fun _=>rfl⟩
theorem MpI.kept {w g:World} {d q:Nat} {x:Nat->Int} {C:Nat->Prop} (h:MpI w d q x) (p:Fr C w g) (i:¬ C d):MpI g d q x:=by
 obtain⟨D,⟨j,c,hb,l⟩,o,k⟩:=h;exact⟨D,⟨j,c,(p.block d (Array.getElem?_eq_some_iff.1 hb).1 i).trans hb,l⟩,o,k⟩
theorem MpI.look {w:World} {d q:Nat} {x:Nat->Int} (h:MpI w d q x) {s:Int} (k:1<=s) (i:s<=500):(Instr.lookup 99 (.map (some d)) (.int .i64 s) false).run prog w=.ok (.bool (memB q x s)) w:=by
 obtain⟨D,j,_,g⟩:=h;obtain⟨v,o,l,c⟩:=j.lookup kInt underlying99 (u5m w) (plainElem_bool underlying4 false) (keyI k i);rw[g s] at c;rw[l,x9f c]
theorem MpI.block {w:World} {i q:Nat} {x:Nat->Int} (h:MpI w i q x) {b:Nat} {c:Array Value} {t:TypeId} {f:Nat × Nat} (hb:w.heap[b]?=some (.cells c t f)):b≠i:=by
 obtain⟨D,⟨j,d,g,_⟩,_⟩:=h;rintro rfl;rw[hb] at g;cases g
theorem MpI.put {g:World} {d q:Nat} {x:Nat->Int} {D:DataW Unit} (c:Maps.IsMap D) (i:∀ s:Int,D.atKey (.int .i64 s) (.lit (.bool false))=.lit (.bool (memB q x s))) (j:g.ownsMap prog 3 (plainElem prog 4) d (q+1) (D.put (.int .i64 (x q)) (.lit (.bool true)))):MpI g d (q+1) x:=by
 refine⟨_,j,c.put _ _,fun s=>?_⟩;rw[x9q];by_cases e:s=x q
 ·subst e;rw[Maps.atKey_put_same c (by trivial)];simp
 rw[Maps.atKey_put_other (fun h=>e (by simpa using h)),i s];simp[show (x q==s)=false by simpa using fun h=>e h.symm]
def W4 (ci cr cp cs:ByteArray) (i:Nat):ByteArray:=if i=0 then ci else if i=1 then cr else if i=2 then cp else cs
theorem idx40 (c d cp cs:ByteArray) (w:World):(Instr.index 100 (.agg #[.string c,.string d,.string cp,.string cs]) (.int .i64 0)).run prog w=.ok (.string c) w:=by kernel_rfl
theorem idx41 (d c cp cs:ByteArray) (w:World):(Instr.index 100 (.agg #[.string d,.string c,.string cp,.string cs]) (.int .i64 1)).run prog w=.ok (.string c) w:=by kernel_rfl
theorem idx42 (d c cp cs:ByteArray) (w:World):(Instr.index 100 (.agg #[.string d,.string c,.string cp,.string cs]) (.int .i64 2)).run prog w=.ok (.string cp) w:=by kernel_rfl
theorem idx43 (d c cp cs:ByteArray) (w:World):(Instr.index 100 (.agg #[.string d,.string c,.string cp,.string cs]) (.int .i64 3)).run prog w=.ok (.string cs) w:=by kernel_rfl
theorem idx4 (d c cp cs:ByteArray) {q:Nat} (g:q<4) (w:World):(Instr.index 100 (.agg #[.string d,.string c,.string cp,.string cs]) (.int .i64 (q:Int))).run prog w=.ok (.string (W4 d c cp cs q)) w:=by
 have:q=0\/q=1\/q=2\/q=3:=by omega
 rcases this with rfl|rfl|rfl|rfl
 ·exact idx40 d c cp cs w
 ·exact idx41 d c cp cs w
 ·exact idx42 d c cp cs w
 exact idx43 d c cp cs w
theorem x3j {w:World} {b:Nat} {sv c:Value} {mo d:Int} (h:BxE w b sv mo):BxE ((w.setCell ⟨b,0,none⟩ c).setCell ⟨b,0+1,none⟩ (.int .i64 d)) b c d:=by
 unfold BxE at h ⊢;simp[World.setCell,Array.getElem?_modify,h]
theorem x6j {w:World} {b:Nat} (h:BxE w b (.slice none 0 0) 0):BxE ((w.setCell ⟨b,0,none⟩ (.slice none 0 0)).setCell ⟨b,0+1,none⟩ (.int .i64 0)) b (.slice none 0 0) y6z.most:=x3j h
theorem y8s (w:World):EdS none w (.slice none 0 0) y6z:=.inl ⟨rfl,none,0,rfl,Nat.zero_le _⟩
theorem v3d {n:Nat} {x:Nat->Int} {c d cp cs:ByteArray} {most:Int} (h:okS n x c d cp cs most=false):simR n x c d cp cs most=(y6z,1):=if_pos h
structure SpI (w0 w:World) (lb mb pb n q:Nat) (lv:Value) (x:Nat->Int):Prop where
 kl:Bx w lb 27 lv
 km:BxE w mb (.slice none 0 0) 0
 mp:MpI w pb q x
 be:Below w0.heap.size w0 w
 ll:w0.heap.size<=lb
 lm:w0.heap.size<=mb
 lp:w0.heap.size<=pb
 lx:Si none w0 lv n x
theorem SpI.new {j w i:World} {lb d g n q:Nat} {lv:Value} {x:Nat->Int} (h:SpI j w lb d g n q lv x) (c:Fr (fun _=>False) w i):SpI j i lb d g n q lv x :=
 ⟨h.kl.kept c (fun e=>e),(c.block d (lt_of_block h.km) (fun e=>e)).trans h.km,h.mp.kept c (fun e=>e),h.be.trans (c.below h.be.size (fun _ e=>e.elim)),h.ll,h.lm,h.lp,h.lx⟩
theorem x2r {n:Nat} {lv:Value} {x:Nat->Int} (u r cp cs:ByteArray) (most:Int) (w:World) (hx:Si none w lv n x) (hn:n<=100) (ht:Tab w) (N:smS u) (h2:smS r) (h3:smS cp) (h4:smS cs) :
  Calls prog 28 #[lv,.string u,.string r,.string cp,.string cs,.int .i64 most] w (NewR (simR n x u r cp cs most) w):=by
 obtain⟨al,cl,bl,ol,j8,g3,j4,i6,i9,a7⟩:=hx.open;subst j8;obtain⟨w1,H⟩:=exq (w.alloc (.cells #[.slice al n cl] 27));obtain⟨w2,U⟩:=exq (w1.alloc (.cells #[.slice none 0 0,.int .i64 0] 24));obtain⟨w3,d0⟩:=exq (w2.alloc (.map #[] 0));have a9:w1.heap.size=w.heap.size+1:=by rw[H];simp
 have f1:w2.heap.size=w.heap.size+1+1:=by rw[U];simp[a9]
 have g8:Fr (fun _=>False) w w1:=by rw[H];exact Fr.alloc _ _
 have b8:Fr (fun _=>False) w1 w2:=by rw[U];exact Fr.alloc _ _
 have d2:Fr (fun _=>False) w2 w3:=by rw[d0];exact Fr.alloc _ _
 have c9:Bx w1 w.heap.size 27 (.slice al n cl):=by rw[H];exact heap_alloc_new w _
 have b0:BxE w2 (w.heap.size+1) (.slice none 0 0) 0:=by rw[<- a9,U];exact heap_alloc_new w1 _
 have g2:MpI w3 (w.heap.size+1+1) 0 x:=by rw[<- f1,d0];exact MpI.made w2 x
 obtain⟨lb,b9⟩:=exq (w.heap.size);obtain⟨g,b5⟩:=exq (w.heap.size+1);obtain⟨pb,b6⟩:=exq (w.heap.size+1+1);rw[<- b9] at c9;rw[<- b5] at b0;rw[<- b6] at g2;have G:SpI w w3 lb g pb n 0 (.slice al n cl) x:=⟨(c9.kept b8 (fun e=>e)).kept d2 (fun e=>e),(d2.block g (lt_of_block b0) (fun e=>e)).trans b0,g2,((g8.trans b8).trans d2).below (Nat.le_refl _) (fun _ e=>e.elim),by omega,by omega,by omega,hx⟩;have l0:=c9.kept b8 (fun e=>e);have l1:=l0.cell;have l2:=G.kl.cell;have d:=qh G;clear G c9 b0 g2 g8 b8 d2 l0 hx;have l9:=qh a9;clear a9;have m5:=qh f1;clear f1;have n3:=qh b9;have n6:=qh b5;have n9:=qh b6;have HA:=qh g3;clear g3;have j7:=qh i9;clear i9;have j5:=qh a7;clear a7;have k7:=qh ht;clear ht;have HS:Hid (∀ q,smS (W4 u r cp cs q)):=qh fun q=>by unfold W4;split;exact N;split;exact h2;split;exact h3;exact h4
 clear N h2 h3 h4;clear j4 i6;have n7:=@run_makeMap prog;obtain⟨ZZ,e4⟩:=exq (simR n x u r cp cs most);rw[<- e4];have HZ:=qh e4;clear e4
 go_enter func28,ntmps28
 go_wp2_with fail
 rw[<- H,<- U,<- d0,<- b6,<- b5,<- b9];clear H U d0 l1 l2 b9 b5 b6
 go_loopw [24] (fun e5 f8=>∃ q:Nat,q<=n/\e5=.int .i64 (q:Int)/\(∀ j,j<q->(1<=x j/\x j<=500)/\memB j x (x j)=false)/\SpI w f8 lb g pb n q (.slice al n cl) x) (fun e5 _=>n-(intOf e5).toNat)
 case atStart=>exact⟨0,Nat.zero_le _,rfl,fun j hj=>absurd hj (Nat.not_lt_zero _),d.out⟩
 obtain⟨q,hq,rfl,K,G⟩:=hrel;clear d;have o:=qh K;clear K;have d:=qh G;clear G;have m0:wr.cell? ⟨g,0,none⟩=some (.slice none 0 0):=cell_of d.out.km 0 rfl;have m1:wr.cell? ⟨g,1,none⟩=some (.int .i64 0):=cell_of d.out.km 1 rfl;have f0:∀ i,wr.frozen? ⟨g,i,none⟩=false:=fun i=>by have:=d.out.km;unfold BxE at this;simp[World.frozen?,this]
 have g0:=f0 0;have g1:=f0 1;clear f0;have a3:okS n x u r cp cs most=false->BxE ((wr.setCell ⟨g,0,none⟩ (.slice none 0 0)).setCell ⟨g,1,none⟩ (.int .i64 0)) g (.slice none 0 0) y6z.most/\NewR ZZ w (.returned (.tuple #[.agg #[.slice none 0 0,.int .i64 y6z.most],.int .i64 1])) ((wr.setCell ⟨g,0,none⟩ (.slice none 0 0)).setCell ⟨g,1,none⟩ (.int .i64 0)):=fun h =>
  ⟨x6j d.out.km,by rw[HZ.out,v3d h];exact⟨(d.out.be.setCell (p:=⟨g,0,none⟩) d.out.lm _).setCell (p:=⟨g,1,none⟩) d.out.lm _,_,rfl,y8s _⟩⟩
 have P:=qh a3;clear a3;by_cases O:q<n
 ·have j3:(q:Int)<(n:Int):=by omega
  have j0:(0:Int)<=(q:Int):=by omega
  obtain rfl:=HA.out (by omega);have c0:=(d.out.be.cell (p:=⟨bl,ol+q,none⟩) (j7.out (by omega)).1).trans (j5.out q O);obtain⟨S,f4⟩:=exq (x q);rw[<- f4] at c0;have a2:=qh f4;clear f4;by_cases N:S<1
  ·have l:okS n x u r cp cs most=false:=by
    have:z3m n x 500=false:=z2i.2 fun h=>by have:=(h q O).1;rw[<- a2.out] at this;omega
    unfold okS;rw[this];rfl
   obtain⟨z,A⟩:=P.out l;have B:=qh z;clear z;have C:=qh A;clear A l
   go_wp2_with fail
   exact bodyPost_ret (z4a rfl _ (b:=g) (v:=.int .i64 1) rfl rfl B.out) rfl C.out
  have k4:decide (S<1)=false:=by simp;omega
  by_cases h5:(500:Int)<S
  ·have l:okS n x u r cp cs most=false:=by
    have:z3m n x 500=false:=z2i.2 fun h=>by have:=(h q O).2;rw[<- a2.out] at this;omega
    unfold okS;rw[this];rfl
   obtain⟨z,A⟩:=P.out l;have B:=qh z;clear z;have C:=qh A;clear A l
   go_wp2_with fail
   exact bodyPost_ret (z4a rfl _ (b:=g) (v:=.int .i64 1) rfl rfl B.out) rfl C.out
  have m3:decide ((500:Int)<S)=false:=by simp;omega
  have g5:=d.out.mp.look (s:=S) (by omega) (by omega);cases E:memB q x S
  ·rw[E] at g5;have d8:1<=S/\S<=500:=by omega
   have HR:=qh d8;clear d8 N h5;obtain⟨D,d3,i2,g4⟩:=d.out.mp;have HM:=qh E;clear E;have j2:=qh d3;clear d3;have j9:=qh i2;clear i2;have k5:=qh g4;clear g4;have d6:=keyI HR.out.1 HR.out.2;have i5:=qh d6;clear d6
   go_wp2_with (at_mapUpdate;refine wpList_mapUpdate_own _ rfl _ _ _ 99 rfl 3 4 kInt underlying99 _ pb q D rfl j2.out (by unfold maxLen;omega) _ _ (.int .i64 S) rfl rfl i5.out (.lit (.bool true)) [] (plainElem_bool underlying4 true) ?_;intro w1 a4 Q;have l6:=qh a4;clear a4;have k6:=qh Q;clear Q)
   go_roundw
   case rel =>
    have Y:Fr (fun k=>k=pb) wr w1:=Fr.of_gb k6.out (fun k e=>by cases e;rfl);refine⟨q+1,by omega,by go_num,fun j hj=>?_,⟨d.out.kl.kept Y (fun e=>d.out.mp.block d.out.kl e),(Y.block g (lt_of_block d.out.km) (fun e=>d.out.mp.block d.out.km e)).trans d.out.km,MpI.put j9.out k5.out (by rw[<- a2.out];exact l6.out),d.out.be.trans (Y.below d.out.be.size (fun k e=>by rw[e];exact d.out.lp)),d.out.ll,d.out.lm,d.out.lp,d.out.lx⟩⟩;by_cases e:j=q
    ·subst e;rw[<- a2.out];exact⟨HR.out,HM.out⟩
    exact o.out j (by omega)
   simp[intOf];omega
  rw[E] at g5;have l:okS n x u r cp cs most=false:=by
   have:nodB n x=false:=by
    cases h:nodB n x
    ·rfl
    have:=x4r.1 h q O;rw[<- a2.out,E] at this;cases this
   unfold okS;rw[this];simp
  clear E;obtain⟨z,A⟩:=P.out l;have B:=qh z;clear z;have C:=qh A;clear A l
  go_wp2_with fail
  exact bodyPost_ret (z4a rfl _ (b:=g) (v:=.int .i64 1) rfl rfl B.out) rfl C.out
 have c7:q=n:=by omega
 have k2:¬ ((q:Int)<(n:Int)):=by omega
 have H:z3m n x 500=true:=z1v.2 fun i hi=>(o.out i (by omega)).1;have g6:nodB n x=true:=x4r.2 fun i hi=>(o.out i (by omega)).2;have k0:=qh (show (z3m n x 500&&nodB n x)=true by rw[H,g6];rfl);clear H g6;have Z:=d.out;rw[c7] at Z;have d5:=qh Z;clear Z d;clear o c7
 go_wp2_with fail
 clear m0 m1 g0 g1
 go_loopw [48] (fun e9 f8=>∃ q:Nat,q<=4/\e9=.int .i64 (q:Int)/\(∀ j,j<q->cstB (W4 u r cp cs j)=true)/\SpI w f8 lb g pb n n (.slice al n cl) x) (fun e9 _=>4-(intOf e9).toNat)
 case atStart=>exact⟨0,Nat.zero_le _,rfl,fun j hj=>absurd hj (Nat.not_lt_zero _),d5.out⟩
 obtain⟨q,hq,rfl,K,G⟩:=hrel;clear d5 P;have o:=qh K;clear K;have d:=qh G;clear G;have a3:∀ W,Fr (fun _=>False) wr W->W.cell? ⟨g,0,none⟩=some (.slice none 0 0)/\W.cell? ⟨g,1,none⟩=some (.int .i64 0)/\W.frozen? ⟨g,0,none⟩=false/\W.frozen? ⟨g,1,none⟩=false/\BxE ((W.setCell ⟨g,0,none⟩ (.slice none 0 0)).setCell ⟨g,1,none⟩ (.int .i64 0)) g (.slice none 0 0) y6z.most /\
   (okS n x u r cp cs most=false->NewR ZZ w (.returned (.tuple #[.agg #[.slice none 0 0,.int .i64 y6z.most],.int .i64 1])) ((W.setCell ⟨g,0,none⟩ (.slice none 0 0)).setCell ⟨g,1,none⟩ (.int .i64 0))):=fun W hf=>by
  have h:=d.out.new hf;have hk:=h.km;refine⟨cell_of hk 0 rfl,cell_of hk 1 rfl,by unfold BxE at hk;simp[World.frozen?,hk],by unfold BxE at hk;simp[World.frozen?,hk],x6j hk,fun hb=>?_⟩;rw[HZ.out,v3d hb];exact⟨(h.be.setCell (p:=⟨g,0,none⟩) h.lm _).setCell (p:=⟨g,1,none⟩) h.lm _,_,rfl,y8s _⟩
 have P:=qh a3;clear a3;have l:∀ j,j<4->cstB (W4 u r cp cs j)=false->okS n x u r cp cs most=false:=fun j hj h=>by
  have h4:((cstB u&&cstB r)&&(cstB cp&&cstB cs))=false:=by
   have:j=0\/j=1\/j=2\/j=3:=by omega
   rcases this with rfl|rfl|rfl|rfl
   ·rw[show cstB u=false from h];rfl
   ·rw[show cstB r=false from h];simp
   ·rw[show cstB cp=false from h];simp
   rw[show cstB cs=false from h];simp
  unfold okS;rw[h4];simp
 have g7:=qh l;clear l;by_cases O:q<4
 ·have j3:(q:Int)<4:=by omega
  have j0:(0:Int)<=(q:Int):=by omega
  have l4:=idx4 u r cp cs O;obtain⟨W,hW⟩:=exq (W4 u r cp cs q);rw[<- hW] at l4;have HW:=qh hW;clear hW;cases hO:(W.toList==[])
  ·have j1:W≠⟨#[]⟩:=fun e=>by rw[e] at hO;simp at hO
   have j6:=qh j1;clear j1;have HC:=qh (x6n W wr (by rw[HW.out];exact HS.out q) (k7.out.below d.out.be (Nat.le_refl _)))
   go_wp2_with fail
   refine HC.out.mono ?_;rintro rr w5 ⟨rfl,f9⟩;obtain⟨m0,m1,g0,g1,z,A⟩:=P.out w5 (Fr.of_below f9);have h9:=qh (d.out.new (Fr.of_below f9));have B:=qh z;clear z;have C:=qh A;clear A f9;cases a8:y3y W
   ·have I:cstB (W4 u r cp cs q)=false:=by rw[<- HW.out];unfold cstB;rw[a8];simp[j6.out]
    have a5:=qh (C.out (g7.out q O I));clear a8 I
    go_wp2_with fail
    exact bodyPost_ret (z4a rfl _ (b:=g) (v:=.int .i64 1) rfl rfl B.out) rfl a5.out
   have I:cstB (W4 u r cp cs q)=true:=by rw[<- HW.out];unfold cstB;rw[a8];simp
   have f5:=qh I;clear I a8 m0 m1 g0 g1
   go_wp2_with fail
   go_roundw
   case rel =>
    refine⟨q+1,by omega,by go_num,fun j hj=>?_,h9.out⟩;by_cases e:j=q
    ·subst e;exact f5.out
    exact o.out j (by omega)
   simp[intOf];omega
  have I:cstB (W4 u r cp cs q)=true:=by rw[<- HW.out];unfold cstB;simp[z4j hO]
  have f5:=qh I;clear I
  go_wp2_with fail
  go_roundw
  case rel =>
   refine⟨q+1,by omega,by go_num,fun j hj=>?_,d.out⟩;by_cases e:j=q
   ·subst e;exact f5.out
   exact o.out j (by omega)
  simp[intOf];omega
 have c7:q=4:=by omega
 have k2:¬ ((q:Int)<4):=by omega
 have h4:((cstB u&&cstB r)&&(cstB cp&&cstB cs))=true:=by
  have e0:=o.out 0 (by omega);have e1:=o.out 1 (by omega);have e2:=o.out 2 (by omega);have e3:=o.out 3 (by omega);rw[show cstB u=true from e0,show cstB r=true from e1,show cstB cp=true from e2,show cstB cs=true from e3];rfl
 have H4:=qh h4;clear h4 o c7;obtain⟨m0,m1,g0,g1,z,A⟩:=P.out wr (Fr.refl _ _);have B:=qh z;clear z;have C:=qh A;clear A;by_cases N:most<0
 ·have hb:okS n x u r cp cs most=false:=by unfold okS;rw[show decide (0<=most)=false by simp;omega];simp
  have a5:=qh (C.out hb);clear hb
  go_wp2_with fail
  exact bodyPost_ret (z4a rfl _ (b:=g) (v:=.int .i64 1) rfl rfl B.out) rfl a5.out
 have k4:decide (most<0)=false:=by simp;omega
 by_cases h6:(6:Int)<most
 ·have hb:okS n x u r cp cs most=false:=by unfold okS;rw[show decide (most<=6)=false by simp;omega];simp
  have a5:=qh (C.out hb);clear hb
  go_wp2_with fail
  exact bodyPost_ret (z4a rfl _ (b:=g) (v:=.int .i64 1) rfl rfl B.out) rfl a5.out
 have n5:decide ((6:Int)<most)=false:=by simp;omega
 have K:okS n x u r cp cs most=true:=by
  unfold okS;rw[k0.out,H4.out,show decide (0<=most)=true by simp;omega,show decide (most<=6)=true by simp;omega];rfl
 have o:=qh K;clear K;have m9:∀ (fn:Fn) (first cap:Array Value) (w:World),(Instr.makeFunc fn first cap).run prog w=.ok (.func fn first cap) w:=fun _ _ _ _=>rfl
 go_wp2_with fail
 clear m0 m1 g0 g1 B C;have i3:SmI w (wr.setCell ⟨g,1,none⟩ (.int .i64 most)) lb g n (.slice al n cl) x ⟨0,fun _=>insD 0,most⟩ (.slice none 0 0) (fun _=>.nilIface) (fun _=>.nilIface):=by
  have h:=d.out;have k3:lb≠g:=fun e=>by
   have N:=h.km;have h2:=h.kl;unfold BxE at N;unfold Bx at h2;rw[<- e,h2] at N;simp at N
  refine⟨(blk_setCell_other _ _ _ _ k3).trans h.kl,?_,OwE.empty _ _ _ rfl _ _,h.be.setCell (p:=⟨g,1,none⟩) h.lm _,h.ll,h.lm,h.lx⟩;have N:=h.km;unfold BxE at N ⊢;simp[World.setCell,Array.getElem?_modify,N]
 have l5:n*n<=10000:=Nat.mul_le_mul hn hn;obtain⟨M1,c6⟩:=exq (oneE insD u x n ⟨0,fun _=>insD 0,most⟩);obtain⟨M2,c8⟩:=exq (oneE remD r x n M1);obtain⟨M3,b7⟩:=exq (twoE repD cp x n n M2);obtain⟨X,d1⟩:=exq (twoE swpD cs x n n M3);have d7:simE n x u r cp cs most=X:=by rw[d1,b7,c8,c6];rfl
 have b1:M1.most=most/\M1.n<=n:=by rw[c6];have:=z7j insD u x ⟨0,fun _=>insD 0,most⟩ n;exact⟨this.1,by have:=this.2;simp at this;exact this⟩
 have b2:M2.most=most/\M2.n<=n+n:=by rw[c8];have:=z7j remD r x M1 n;exact⟨this.1.trans b1.1,by omega⟩
 have b3:M3.most=most/\M3.n<=n+n+n*n:=by rw[b7];have:=z7i repD cp x n M2 n;exact⟨this.1.trans b2.1,by omega⟩
 have b4:X.most=most/\X.n<=n+n+n*n+n*n:=by rw[d1];have:=z7i swpD cs x n M3 n;exact⟨this.1.trans b3.1,by omega⟩
 have l8:X.n<=30000:=by omega
 have e8:=qh (y7i u _ i3 u4b hn (by show 0<=90000;omega));rw[<- c6] at e8;have e7:Hid (∀ (W:World) (sv:Value) (F T:Nat->Value),SmI w W lb g n (.slice al n cl) x M1 sv F T->_):=qh fun W sv F T h=>y7i r W h u4e hn (by omega);rw[<- c8] at e7;have f7:Hid (∀ (W:World) (sv:Value) (F T:Nat->Value),SmI w W lb g n (.slice al n cl) x M2 sv F T->_):=qh fun W sv F T h=>y7m cp W h u4v hn (by omega);rw[<- b7] at f7;have f2:Hid (∀ (W:World) (sv:Value) (F T:Nat->Value),SmI w W lb g n (.slice al n cl) x M3 sv F T->_):=qh fun W sv F T h=>y7m cs W h u4r hn (by omega);rw[<- d1] at f2;have d4:=qh d7;clear d7;have R:=b4.1;have h8:=qh R;clear R;clear b1 b2 b3 b4 c6 c8 b7 d1 i3 l5 d;refine e8.out.mono ?_;rintro rr w6 ⟨rfl,m7,F1,T1,i4⟩;have h0:=qh i4;clear i4 e8
 go_wp2_with fail
 refine(e7.out _ _ _ _ h0.out).mono ?_;rintro rr w7 ⟨rfl,m4,F2,T2,i7⟩;have h7:=qh i7;clear i7 e7 h0
 go_wp2_with fail
 refine(f7.out _ _ _ _ h7.out).mono ?_;rintro rr w8 ⟨rfl,n0,F3,T3,g9⟩;have i8:=qh g9;clear g9 f7 h7
 go_wp2_with fail
 refine(f2.out _ _ _ _ i8.out).mono ?_;rintro rr w9 ⟨rfl,m8,F4,T4,a1⟩;obtain⟨sa,sc,k1,_,_⟩:=z5r a1.own.top;subst k1;have m0:=a1.c0;have L:=a1.km;rw[h8.out] at L;have m1:w9.cell? ⟨g,1,none⟩=some (.int .i64 most):=cell_of L 1 rfl;have g0:w9.frozen? ⟨g,0,none⟩=false:=by unfold BxE at L;simp[World.frozen?,L]
 have g1:w9.frozen? ⟨g,1,none⟩=false:=by unfold BxE at L;simp[World.frozen?,L]
 have e6:=qh L;clear L;have J:=qh a1;clear a1 f2 i8;by_cases l7:(400:Int)<(X.n:Int)
 ·have a6:ZZ=(y6z,2):=by rw[HZ.out];unfold simR;rw[if_neg (by rw[o.out];simp),d4.out,if_pos (by omega)]
  have d9:=qh a6;clear a6
  go_wp2_with fail
  refine bodyPost_ret (z4a rfl _ (b:=g) (v:=.int .i64 2) (sv:=.slice none 0 0) (mo:=0) rfl rfl (x3j e6.out)) rfl ?_;rw[d9.out];exact⟨(J.out.be.setCell (p:=⟨g,0,none⟩) J.out.lm _).setCell (p:=⟨g,1,none⟩) J.out.lm _,_,rfl,y8s _⟩
 have k9:decide ((400:Int)<(X.n:Int))=false:=by simp;omega
 have a6:ZZ=(X,0):=by rw[HZ.out];unfold simR;rw[if_neg (by rw[o.out];simp),d4.out,if_neg (by omega)]
 have d9:=qh a6;clear a6
 go_wp2_with fail
 refine bodyPost_ret (z4a rfl _ (b:=g) (v:=.int .i64 0) (sv:=.slice sa X.n sc) (mo:=most) rfl rfl (x3j e6.out)) rfl ?_;rw[d9.out];refine⟨(J.out.be.setCell (p:=⟨g,0,none⟩) J.out.lm _).setCell (p:=⟨g,1,none⟩) J.out.lm _,_,by rw[h8.out];rfl,?_⟩;have Y:Fr (fun q=>q=g) w9 ((w9.setCell ⟨g,0,none⟩ (.slice sa X.n sc)).setCell ⟨g,1,none⟩ (.int .i64 most)):=((Fr.refl (fun q=>q=g) w9).set (p:=⟨g,0,none⟩) (.inl rfl) _).set (p:=⟨g,1,none⟩) (.inl rfl) _;refine(J.out.own.kept Y (fun b hb e=>J.out.svtb (by rw[hb,e])) (fun b c f hb e=>?_)).eds;subst e;have N:=e6.out;unfold BxE at N;rw[hb] at N;simp at N
end
section
open Go.RowKit Go.Deep
theorem z6i {n:Nat} {v:Value} {x:Nat->Int} (w:World) (C:Si none w v n x) (hn:(n:Int)<=9223372036854775807) :
  Calls prog 20 #[v] w (fun r w'=>r=.returned (.bool (isWord n x))/\w'=w):=by
 obtain⟨a,I,b,L,rfl,E,U,G,hb,d⟩:=C.open;unfold maxLen at G;have T:=qh E;clear E;have P:=qh d;clear d C hb;by_cases N:(200:Int)<(n:Int)
 ·have z:isWord n x=false:=by unfold isWord;rw[show decide (n<=200)=false by simp;omega];rfl
  rw[z];clear z
  go_enter func20,ntmps20
  go_wp2_with fail
  go_ret;exact⟨rfl,rfl⟩
 have O:decide ((200:Int)<(n:Int))=false:=by simp;omega
 have Q:n<=200:=by omega
 have z:isWord n x=z3m n x 500:=by unfold isWord;rw[show decide (n<=200)=true by simp;omega];simp
 rw[z];clear z N
 go_enter func20,ntmps20
 go_wp2_with fail
 go_loop [3] (fun i=>∃ q:Nat,q<=n/\i=.int .i64 (q:Int)/\∀ j,j<q->1<=x j/\x j<=500) (fun i=>n-(intOf i).toNat)
 case atStart=>exact⟨0,Nat.zero_le _,rfl,fun j R=>by omega⟩
 obtain⟨q,W,rfl,u⟩:=hrel;have A:=qh u;clear u;by_cases p:q<n
 ·have J:(q:Int)<(n:Int):=by omega
  have D:(0:Int)<=(q:Int):=by omega
  obtain rfl:=T.out (by omega);have c0:=P.out q p;obtain⟨s,k⟩:=exq (x q);rw[<- k] at c0;have l:=qh k;clear k;by_cases X:s<1
  ·have c:z3m n x 500=false:=z2i.2 fun h=>by have:=(h q p).1;rw[<- l.out] at this;omega
   have o:=qh c;clear c
   go_wp2_with fail
   go_ret;exact⟨z0k o.out.symm,rfl⟩
  have K:decide (s<1)=false:=by simp;omega
  by_cases Y:(500:Int)<s
  ·have c:z3m n x 500=false:=z2i.2 fun h=>by have:=(h q p).2;rw[<- l.out] at this;omega
   have o:=qh c;clear c
   go_wp2_with fail
   go_ret;exact⟨z0k o.out.symm,rfl⟩
  have H:decide ((500:Int)<s)=false:=by simp;omega
  go_wp2_with fail
  go_round
  case rel=>exact⟨q+1,by omega,by go_num,fun j R=>by
   by_cases e:j=q
   ·subst e;rw[<- l.out];omega
   exact A.out j (by omega)⟩
  simp[intOf];omega
 have B:q=n:=by omega
 have F:¬ ((q:Int)<(n:Int)):=by omega
 have g:z3m n x 500=true:=z1v.2 fun i hi=>A.out i (by rw[B];exact hi);have S:=qh g;clear g B
 go_wp2_with fail
 go_ret;exact⟨z0k S.out.symm,rfl⟩
theorem z9z {n:Nat} {v:Value} {x:Nat->Int} {sg:Int} (w:World) (D:Si none w v n x) (hn:(n:Int)<=9223372036854775806) :
  Calls prog 27 #[v,.int .i64 sg] w (fun r w'=>r=.returned (.bool (z3m n x sg))/\w'=w):=by
 obtain⟨a,L,b,P,rfl,H,U,J,hb,d⟩:=D.open;unfold maxLen at J;have T:=qh H;clear H;have Q:=qh d;clear d D hb
 go_enter func27,ntmps27
 go_wp2_with fail
 go_loop [5] (fun i=>∃ q:Nat,q<=n/\i=.int .i64 (q:Int)/\∀ j,j<q->1<=x j/\x j<=sg) (fun i=>n-(intOf i).toNat)
 case atStart=>exact⟨0,Nat.zero_le _,rfl,fun j R=>by omega⟩
 obtain⟨q,W,rfl,u⟩:=hrel;have z:=qh u;clear u;by_cases p:q<n
 ·have N:(q:Int)<(n:Int):=by omega
  have G:(0:Int)<=(q:Int):=by omega
  obtain rfl:=T.out (by omega);have c0:=Q.out q p;obtain⟨s,k⟩:=exq (x q);rw[<- k] at c0;have l:=qh k;clear k;by_cases E:s<1
  ·have c:z3m n x sg=false:=z2i.2 fun h=>by have:=(h q p).1;rw[<- l.out] at this;omega
   have o:=qh c;clear c
   go_wp2_with fail
   go_ret;exact⟨z0k o.out.symm,rfl⟩
  have O:decide (s<1)=false:=by simp;omega
  by_cases F:sg<s
  ·have c:z3m n x sg=false:=z2i.2 fun h=>by have:=(h q p).2;rw[<- l.out] at this;omega
   have o:=qh c;clear c
   go_wp2_with fail
   go_ret;exact⟨z0k o.out.symm,rfl⟩
  have K:decide (sg<s)=false:=by simp;omega
  have C:=qh E;clear E;have B:=qh F;clear F
  go_wp2_with fail
  go_round
  case rel=>exact⟨q+1,by omega,by go_num,fun j R=>by
   by_cases e:j=q
   ·subst e;rw[<- l.out];have:=C.out;have:=B.out;omega
   exact z.out j (by omega)⟩
  simp[intOf];omega
 have A:q=n:=by omega
 have I:¬ ((q:Int)<(n:Int)):=by omega
 have g:z3m n x sg=true:=z1v.2 fun i hi=>z.out i (by rw[A];exact hi);have S:=qh g;clear g A
 go_wp2_with fail
 go_ret;exact⟨z0k S.out.symm,rfl⟩
def z8q (n:Nat) (x:Nat->Int):Bool:=decide (n<=6)&&z3m n x 500
theorem y7q {n:Nat} {v:Value} {x:Nat->Int} (w:World) (d:Si none w v n x) (hn:(n:Int)<=9223372036854775807) :
  Calls prog 41 #[v] w (fun r w'=>r=.returned (.bool (z8q n x))/\w'=w):=by
 have g:=qh (z6i w d hn);obtain⟨a,h,rfl⟩:=d.shape;clear d;by_cases k:(n:Int)<=6
 ·have c:z8q n x=isWord n x:=by unfold z8q isWord;rw[show decide (n<=6)=true by simp;omega,show decide (n<=200)=true by simp;omega]
  rw[c];clear c
  go_enter func41,ntmps41
  go_wp2_with fail
  refine g.out.mono ?_;rintro r j ⟨rfl,rfl⟩
  go_wp2_with fail
  go_ret;exact⟨rfl,rfl⟩
 have i:decide ((n:Int)<=6)=false:=by simp;omega
 have c:z8q n x=false:=by unfold z8q;rw[show decide (n<=6)=false by simp;omega];rfl
 rw[c];clear c
 go_enter func41,ntmps41
 go_wp2_with fail
 go_ret;exact⟨rfl,rfl⟩
theorem v5b (s:ByteArray) (w:World) (B:s.size<=9223372036854775807):Calls prog 42 #[.string s] w (fun r w'=>r=.returned (.bool (y3y s))/\Below w.heap.size w w'):=by
 have d:=y0e s w B;cases c:prs s with
 | none =>
  rw[c] at d;have A:=qh d;clear d;have z:=qh c;clear c
  go_enter func42,ntmps42
  go_wp2_with fail
  refine A.out.mono ?_;rintro r l ⟨rfl,hb⟩;have o:=qh hb;clear hb
  go_wp2_with fail
  go_ret;exact⟨z0k (by unfold y3y;rw[z.out]),o.out⟩
 | some q =>
  rw[c] at d;have g:prs ⟨#[48]⟩=some 0:=by decide +kernel
  have k:z3q s ⟨#[48]⟩=cmpQ q 0:=by unfold z3q;rw[c,g]
  have u:=fun l=>y4d s ⟨#[48]⟩ l B (by decide);rw[k] at u;have C:=qh u;clear u k g;have A:=qh d;clear d;have z:=qh c;clear c
  go_enter func42,ntmps42
  go_wp2_with fail
  refine A.out.mono ?_;rintro r l ⟨rfl,hb⟩;have j:=C.out l;have o:=qh hb;clear hb;have v:=qh j;clear j C
  go_wp2_with fail
  refine v.out.mono ?_;rintro r D ⟨rfl,i⟩;have p:=qh (o.out.trans (i.mono o.out.size));clear i
  go_wp2_with fail
  go_ret;exact⟨z0k (by
   unfold y3y;rw[z.out]
   rcases z1c q 0 with ⟨h,e⟩|⟨h,e⟩|⟨h,e⟩<;>rw[e]
   ·simp[Rat.not_le.2 h]
   ·subst h;simp
   simp[Rat.le_of_lt h]),p.out⟩
theorem y4h {n m:Nat} {v v':Value} {x y:Nat->Int} (w:World) (Z:Si none w v n x) (hy:Si none w v' m y) (hn:(n:Int)<=9223372036854775806) (a2:(m:Int)<=9223372036854775806) :
  Calls prog 36 #[v,v'] w (fun r w'=>(∃ c:Int,r=.returned (.int .i64 c)/\(c=0↔eqB n m x y=true))/\Below w.heap.size w w'):=by
 obtain⟨a,a6,b,C,rfl,X,hc,hm,hb,o⟩:=Z.open;obtain⟨a',Y,P,l,rfl,N,a8,I,L,g⟩:=hy.open;unfold maxLen at hm I;clear Z hy;have HA:=qh X;clear X;have HB:=qh hb;clear hb;have HX:=qh o;clear o;have W:=qh N;clear N;have T:=qh L;clear L;have U:=qh g;clear g;by_cases K:n=m
 ·subst K
  go_enter func36,ntmps36
  go_wp2_with fail
  go_loopw [5] (fun i wr=>∃ q:Nat,q<=n/\i=.int .i64 (q:Int)/\(∀ j,j<q->x j=y j)/\Below w.heap.size w wr) (fun i _=>n-(intOf i).toNat)
  case atStart=>exact⟨0,Nat.zero_le _,rfl,fun j hj=>by omega,Below.refl _ _⟩
  obtain⟨q,hq,rfl,d,G⟩:=hrel;have k:=qh G;clear G;have H:=qh d;clear d;by_cases u:q<n
  ·have a3:(q:Int)<(n:Int):=by omega
   have a1:(0:Int)<=(q:Int):=by omega
   obtain rfl:=HA.out (by omega);obtain rfl:=W.out (by omega);have c0:=(k.out.cell (p:=⟨b,C+q,none⟩) (HB.out (by omega)).1).trans (HX.out q u);have c1:=(k.out.cell (p:=⟨P,l+q,none⟩) (T.out (by omega)).1).trans (U.out q u);obtain⟨s,E⟩:=exq (x q);obtain⟨z,D⟩:=exq (y q);rw[<- E] at c0;rw[<- D] at c1;have A:=qh E;clear E;have B:=qh D;clear D;by_cases O:s<z
   ·have d:¬ eqB n n x y=true:=fun h=>by have:=(y0x.1 h).2 q u;rw[<- A.out,<- B.out] at this;omega
    have F:=qh d;clear d
    go_wp2_with fail
    go_quiet (fail)
    go_wp2_with fail
    go_ret;exact⟨⟨-1,rfl,⟨fun h=>(by cases h),fun h=>absurd h F.out⟩⟩,below_drewN k.out _⟩
   have S:decide (s<z)=false:=by simp;omega
   by_cases hg:z<s
   ·have d:¬ eqB n n x y=true:=fun h=>by have:=(y0x.1 h).2 q u;rw[<- A.out,<- B.out] at this;omega
    have F:=qh d;clear d;have HL:=qh O;clear O
    go_wp2_with fail
    go_quiet (fail)
    have R:(wr.drewN nq).cell? ⟨b,C+q,none⟩=some (.int .i64 s):=c0;have Q:(wr.drewN nq).cell? ⟨P,l+q,none⟩=some (.int .i64 z):=c1
    go_wp2_with fail
    go_quiet (fail)
    go_wp2_with fail
    go_ret;exact⟨⟨1,rfl,⟨fun h=>(by cases h),fun h=>absurd h F.out⟩⟩,below_drewN (below_drewN k.out _) _⟩
   have a4:decide (z<s)=false:=by simp;omega
   have he:s=z:=by omega
   have HE:=qh he;clear he O hg
   go_wp2_with fail
   go_quiet (fail)
   have R:(wr.drewN nq).cell? ⟨b,C+q,none⟩=some (.int .i64 s):=c0;have Q:(wr.drewN nq).cell? ⟨P,l+q,none⟩=some (.int .i64 z):=c1
   go_wp2_with fail
   go_quiet (fail)
   go_wp2_with fail
   go_roundw
   case rel =>
    refine⟨q+1,by omega,by go_num,fun j hj=>?_,below_drewN k.out _⟩;by_cases e:j=q
    ·subst e;rw[<- A.out,<- B.out];exact HE.out
    exact H.out j (by omega)
   simp[intOf];omega
  have J:q=n:=by omega
  have a5:¬ ((q:Int)<(n:Int)):=by omega
  have HQ:=qh J;clear J
  go_wp2_with fail
  go_ret;exact⟨⟨0,rfl,⟨fun _=>y0x.2 ⟨rfl,fun i hi=>H.out i (by rw[HQ.out];exact hi)⟩,fun _=>rfl⟩⟩,k.out⟩
 have a7:¬ (n:Int)=(m:Int):=by omega
 have d:¬ eqB n m x y=true:=fun h=>K (y0x.1 h).1;have F:=qh d;clear d;by_cases O:(n:Int)<(m:Int)
 ·go_enter func36,ntmps36
  go_wp2_with fail
  go_ret;exact⟨⟨-1,rfl,⟨fun h=>(by cases h),fun h=>absurd h F.out⟩⟩,Below.refl _ _⟩
 have S:decide ((n:Int)<(m:Int))=false:=by simp;omega
 go_enter func36,ntmps36
 go_wp2_with fail
 go_ret;exact⟨⟨1,rfl,⟨fun h=>(by cases h),fun h=>absurd h F.out⟩⟩,Below.refl _ _⟩
theorem y6v {M:EM} {v:Value} (w:World) (hM:Em none w v M) (hs:ESz M):Calls prog 14 #[v] w (EvE M w):=by
 obtain⟨sv,rfl,hS⟩:=hM;obtain⟨a,u,b,E,A,A',C,C',rfl,ha,hc,hm,hb,T⟩:=hS.open;unfold maxLen at hm;clear hS;have o:=BoxE.new w M (.slice a M.n u);have Q:Below w.heap.size w (w.alloc (.cells #[.slice a M.n u,.int .i64 M.most] 24)):=(Below.refl _ _).alloc (Nat.le_refl _) _;have d5:=hs.n;have d7:=hs.m0;have d8:=hs.m1;have Y:=qh hs;clear hs;have HA:=qh ha;clear ha;have HB:=qh hb;clear hb;have HR:=qh T;clear T;have m0:=o.c0;have m1:=o.c1;have j:=qh o;clear o;have P:=qh Q;clear Q
 go_enter func14,ntmps14
 go_wp2_with fail
 all_goals first
  | (go_ret;exact⟨P.out,.inr ⟨fun v=>by have h1:=v.n4;have h2:=v.m0;have h3:=v.m6;omega,rfl⟩⟩)
  | skip
 have R:M.n<=400/\0<=M.most/\M.most<=6:=by omega
 have J:=qh R;clear R;obtain⟨wm,N⟩:=exq (w.alloc (.cells #[.slice a M.n u,.int .i64 M.most] 24));obtain⟨mb,a1⟩:=exq (w.heap.size);rw[<- N] at P;rw[<- N,<- a1] at j;rw[<- N,<- a1];clear N a1 m0 m1
 go_loopw [3] (fun i wr=>∃ q:Nat,q<=M.n/\i=.int .i64 (q:Int)/\(∀ l,l<q->EdOk (M.e l))/\Below w.heap.size w wr/\BoxE wr mb M (.slice a M.n u)) (fun i _=>M.n-(intOf i).toNat)
 case atStart=>exact⟨0,Nat.zero_le _,rfl,fun l hl=>by omega,P.out,j.out⟩
 obtain⟨q,hq,rfl,b5,a4,b0⟩:=hrel;clear P j;have b7:=qh b5;clear b5;have z:=qh a4;clear a4;have j:=qh b0;clear b0;have m0:=j.out.c0;by_cases b8:q<M.n
 ·have d4:(q:Int)<(M.n:Int):=by omega
  have d2:(0:Int)<=(q:Int):=by omega
  obtain rfl:=HA.out (by omega);have X:=(HB.out (by omega)).1;obtain⟨k1,k2,k3,k4,k5⟩:=HR.out q b8;have c0:=(z.out.cell (p:=⟨b,E+q*3,none⟩) X).trans k1;have c1:=(z.out.cell (p:=⟨b,E+q*3+1,none⟩) X).trans k2;have c2:=(z.out.cell (p:=⟨b,E+q*3+2,none⟩) X).trans k3;clear k1 k2 k3;have b2:=Y.out.f q;have a8:=Y.out.t q;obtain⟨d,hd⟩:=exq (M.e q);rw[<- hd] at c0 c1 c2 k4 k5 b2 a8;obtain⟨nf,I⟩:=exq (d.nf);obtain⟨nt,K⟩:=exq (d.nt);rw[<- I] at c0 k4 b2;rw[<- K] at c1 k5 a8;have b1:¬ EdOk d->¬ VE M:=fun h v=>h (by rw[hd];exact v.ok q b8);have O:=qh b1;clear b1;have b9:=qh k4;clear k4;have c9:=qh k5;clear k5;have HD:=qh hd;clear hd;have F:=qh I;clear I;have H:=qh K;clear K;obtain⟨L,B⟩:=exq (wr.alloc (.cells #[.slice (A q) nf (C q),.slice (A' q) nt (C' q),.string d.w] 50));have b6:Fr (fun _=>False) wr L:=by rw[B];exact Fr.alloc _ _
  have a2:=z.out.alloc z.out.size (.cells #[.slice (A q) nf (C q),.slice (A' q) nt (C' q),.string d.w] 50);rw[<- B] at a2;obtain⟨ab,W⟩:=exq (wr.heap.size);have S:L.heap[ab]?=some (.cells #[.slice (A q) nf (C q),.slice (A' q) nt (C' q),.string d.w] 50 (0,0)):=by rw[B,W];exact heap_alloc_new wr _
  have k:=qh a2;clear a2;have D:=qh S;clear S;have U:=qh (show BoxE L mb M (.slice (some ⟨b,E,none⟩) M.n u) from (b6.block mb j.out.lt (fun e=>e)).trans j.out);clear b6 j;have d0:=qh (y7q L (b9.out.kept (z0c k.out none)) (by omega));have d1:=qh (y7q L (c9.out.kept (z0c k.out none)) (by omega));have e1:L.cell? ⟨ab,1,none⟩=some (.slice (A' q) nt (C' q)):=by simp[World.cell?,D.out]
  have e0:L.cell? ⟨ab,0,none⟩=some (.slice (A q) nf (C q)):=by simp[World.cell?,D.out]
  have e2:L.cell? ⟨ab,2,none⟩=some (.string d.w):=by simp[World.cell?,D.out]
  go_wp2_with fail
  rw[<- B,<- W];clear B W c0 c1 c2 m0;refine d0.out.mono ?_;rintro r w1 ⟨rfl,rfl⟩;cases c:z8q nf d.f
  ·have s:¬ (d.nf<=6/\y0g d.nf d.f 500):=fun h=>by
    unfold z8q at c;rw[F.out,z1v.2 h.2] at c;simp at c;omega
   have Z:=qh s;clear s c
   go_wp2_with fail
   go_ret;exact⟨k.out,.inr ⟨O.out (fun h=>Z.out ⟨h.f6,h.fw⟩),rfl⟩⟩
  have a5:d.nf<=6/\y0g d.nf d.f 500:=by
   unfold z8q at c;rw[F.out] at c;simp at c;exact⟨c.1,z1v.1 c.2⟩
  have H1:=qh a5;clear a5 c
  go_wp2_with fail
  refine d1.out.mono ?_;rintro r w2 ⟨rfl,rfl⟩;cases g:z8q nt d.t
  ·have s:¬ (d.nt<=6/\y0g d.nt d.t 500):=fun h=>by
    unfold z8q at g;rw[H.out,z1v.2 h.2] at g;simp at g;omega
   have Z:=qh s;clear s g
   go_wp2_with fail
   go_ret;exact⟨k.out,.inr ⟨O.out (fun h=>Z.out ⟨h.t6,h.tw⟩),rfl⟩⟩
  have b3:d.nt<=6/\y0g d.nt d.t 500:=by
   unfold z8q at g;rw[H.out] at g;simp at g;exact⟨g.1,z1v.1 g.2⟩
  have H2:=qh b3;clear b3 g;have hw:IntKind.i64.wrap ((nf:Int)+(nt:Int))=(nf:Int)+(nt:Int):=by rw[IntKind.wrap_i64];have h1:=H1.out.1;have h2:=H2.out.1;rw[<- F.out] at h1;rw[<- H.out] at h2;omega
  by_cases d3:(nf:Int)+(nt:Int)=0
  ·have s:¬ (0<d.nf+d.nt):=by rw[<- F.out,<- H.out];omega
   have Z:=qh s;clear s
   go_wp2_with fail
   go_ret;exact⟨k.out,.inr ⟨O.out (fun h=>Z.out h.pos),rfl⟩⟩
  have a6:0<d.nf+d.nt:=by rw[<- F.out,<- H.out];omega
  have c6:=qh a6;clear a6;have c8:=qh (v5b d.w w2 (by rw[HD.out];have:=Y.out.w q;omega))
  go_wp2_with fail
  refine c8.out.mono ?_;rintro r w3 ⟨rfl,a3⟩;have b4:=qh (k.out.trans (a3.mono k.out.size));have a7:=qh (show BoxE w3 mb M (.slice (some ⟨b,E,none⟩) M.n u) from (a3.block mb U.out.lt).trans U.out);clear a3;cases G:y3y d.w
  ·have s:¬ y6a d.w:=fun h=>by rw[z7q.2 h] at G;cases G
   have Z:=qh s;clear s G
   go_wp2_with fail
   go_ret;exact⟨b4.out,.inr ⟨O.out (fun h=>Z.out h.wt),rfl⟩⟩
  have s:=z7q.1 G;have c7:=qh s;clear s G
  go_wp2_with fail
  go_roundw
  case rel =>
   refine⟨q+1,by omega,by go_num,fun l hl=>?_,b4.out,a7.out⟩;by_cases e:l=q
   ·subst e;rw[<- HD.out];exact⟨H1.out.1,H2.out.1,c6.out,H1.out.2,H2.out.2,c7.out⟩
   exact b7.out l (by omega)
  simp[intOf];omega
 have a9:q=M.n:=by omega
 have d6:¬ ((q:Int)<(M.n:Int)):=by omega
 have HQ:=qh a9;clear a9
 go_wp2_with fail
 go_ret;exact⟨z.out,.inl ⟨⟨J.out.1,J.out.2.1,J.out.2.2,fun i hi=>b7.out i (by rw[HQ.out];exact hi)⟩,rfl⟩⟩
end
section
open Go.RowKit
section
variable {P:Program} {ops:Array Oper} {Q:Exit->Act->World->Prop}
theorem v3n {i:Nat} {o:Oper} {K:Act->World->Prop} {a:Act} {w:World} (d:ops[i]?=some o) (c:o.guard=none) (h:∀ K':Act->World->Prop,(∀ a w,K a w->K' a w)->Oper.wp P o a w K' Q):wpOp P ops Q i K a w :=
 wpOp_step d fun K' g=>by
  rw[if_pos (by simp[Region.wanted,c])];exact h K' g
end
end
section
open Go.RowKit Go.Deep
theorem z0b.two {P:Program} {d:Array Oper} {Q:Exit->Act->World->Prop} {S:World->Prop} {s i j:Nat} {g:Nat} {c:Array Bool} {a:Act} {w:World} (l:Region.ready .any d c=[i,j])
  (p:wpOp P d Q i (fun a' w'=>(i=s\/S w')/\z0b P d Q S s g (c.setIfInBounds i true) a' w') a w)
  (r:wpOp P d Q j (fun a' w'=>(j=s\/S w')/\z0b P d Q S s g (c.setIfInBounds j true) a' w') a w):z0b P d Q S s (g+1) c a w:=by
 refine⟨fun o=>(by rw[l] at o;cases o),fun k h=>?_⟩;rw[l] at h
 rcases List.mem_cons.1 h with rfl|h
 ·exact p
 obtain rfl:k=j:=by simpa using h
 exact r
theorem y4t (n:Nat) (x:Nat->Int):eqB n n x x=true:=y0x.2 ⟨rfl,fun _ _=>rfl⟩
theorem v0h {M:EM} {v v':Value} (w:World) (h:EdS none w v M) (h':EdS none w v' M) (hs:ESz M) :
  Calls prog 30 #[.agg #[v,.int .i64 M.most],.agg #[v',.int .i64 M.most]] w (fun r w'=>r=.returned (.bool true)/\Below w.heap.size w w'):=by
 obtain⟨a,D,b,l,A,A',C,C',rfl,ha,hc,hm,hb,c9⟩:=h.open;obtain⟨a2,u,F,g,A2,Z,C2,Y,rfl,f1,g2,g1,P,a7⟩:=h'.open;clear h h';obtain⟨w1,a5⟩:=exq (w.alloc (.cells #[.slice a M.n D,.int .i64 M.most] 24));obtain⟨w2,b9⟩:=exq (w1.alloc (.cells #[.slice a2 M.n u,.int .i64 M.most] 24));have e9:w1.heap.size=w.heap.size+1:=by rw[a5];simp
 obtain⟨L,e3⟩:=exq (w.heap.size);obtain⟨nb,d6⟩:=exq (w.heap.size+1);have e8:Fr (fun _=>False) w w1:=by rw[a5];exact Fr.alloc _ _
 have e4:Fr (fun _=>False) w1 w2:=by rw[b9];exact Fr.alloc _ _
 have b8:BoxE w1 L M (.slice a M.n D):=by rw[a5,e3];exact BoxE.new w M _
 have G:BoxE w2 nb M (.slice a2 M.n u):=by rw[b9,d6,<- e9];exact BoxE.new w1 M _
 have U:BoxE w2 L M (.slice a M.n D):=(e4.block L b8.lt (fun e=>e)).trans b8;have d3:Below w.heap.size w w2:=(e8.trans e4).below (Nat.le_refl _) (fun _ e=>e.elim);have m0:=U.c0;have m1:=U.c1;have n0:=G.c0;have n1:=G.c1;have Q:=qh U;clear U b8;have E:=qh G;clear G e8 e4;have B:=qh d3;clear d3;have HA:=qh ha;clear ha;have HB:=qh hb;clear hb;have HR:=qh c9;clear c9;have g5:=qh f1;clear f1;have g0:=qh P;clear P;have g4:=qh a7;clear a7;have h3:=hs.n;have e6:=qh hs;clear hs;clear hc hm g2 g1
 go_enter func30,ntmps30
 go_wp2_with fail
 rw[<- a5,<- b9,<- d6,<- e3];clear a5 b9 e9 d6 e3 m0 m1 n0 n1
 go_loopw [5] (fun v5 wr=>∃ q:Nat,q<=M.n/\v5=.int .i64 (q:Int)/\Below w.heap.size w wr/\BoxE wr L M (.slice a M.n D)/\BoxE wr nb M (.slice a2 M.n u)) (fun v5 _=>M.n-(intOf v5).toNat)
 case atStart=>exact⟨0,Nat.zero_le _,rfl,B.out,Q.out,E.out⟩
 obtain⟨q,hq,rfl,f9,U,G⟩:=hrel;clear B Q E;have B:=qh f9;clear f9;have Q:=qh U;clear U;have E:=qh G;clear G;have m0:=Q.out.c0;have n0:=E.out.c0;by_cases f4:q<M.n
 ·have g8:(q:Int)<(M.n:Int):=by omega
  have g7:(0:Int)<=(q:Int):=by omega
  obtain rfl:=HA.out (by omega);obtain rfl:=g5.out (by omega);have d5:=(HB.out (by omega)).1;have a6:=(g0.out (by omega)).1;obtain⟨k1,k2,k3,k4,k5⟩:=HR.out q f4;obtain⟨l1,l2,l3,l4,l5⟩:=g4.out q f4;have c0:=(B.out.cell (p:=⟨b,l+q*3,none⟩) d5).trans k1;have c1:=(B.out.cell (p:=⟨b,l+q*3+1,none⟩) d5).trans k2;have c2:=(B.out.cell (p:=⟨b,l+q*3+2,none⟩) d5).trans k3;have d0:=(B.out.cell (p:=⟨F,g+q*3,none⟩) a6).trans l1;have d1:=(B.out.cell (p:=⟨F,g+q*3+1,none⟩) a6).trans l2;have d2:=(B.out.cell (p:=⟨F,g+q*3+2,none⟩) a6).trans l3;clear k1 k2 k3 l1 l2 l3;obtain⟨d,hd⟩:=exq (M.e q);have g3:(d.nf:Int)<=4611686018427387903:=by rw[hd];exact e6.out.f q
  have g6:(d.nt:Int)<=4611686018427387903:=by rw[hd];exact e6.out.t q
  rw[<- hd] at c0 c1 c2 d0 d1 d2 k4 k5 l4 l5;clear hd;obtain⟨nf,c8⟩:=exq (d.nf);obtain⟨nt,d4⟩:=exq (d.nt);obtain⟨ds,f5⟩:=exq (d.w);rw[<- c8] at c0 d0 k4 l4 g3;rw[<- d4] at c1 d1 k5 l5 g6;rw[<- f5] at c2 d2;obtain⟨df,e7⟩:=exq (d.f);obtain⟨dt,f7⟩:=exq (d.t);rw[<- e7] at k4 l4;rw[<- f7] at k5 l5;clear c8 d4 f5 e7 f7;have f2:=qh k4;clear k4;have f0:=qh k5;clear k5;have f8:=qh l4;clear l4;have e5:=qh l5;clear l5
  go_wp2_with fail
  obtain⟨ox,c7⟩:=exq (Obj.cells #[.slice (A q) nf (C q),.slice (A' q) nt (C' q),.string ds] 50);obtain⟨oy,c6⟩:=exq (Obj.cells #[.slice (A2 q) nf (C2 q),.slice (Z q) nt (Y q),.string ds] 50);have I:(fun s=>s.cell? ⟨L,0,none⟩=some (.slice (some ⟨b,l,none⟩) M.n D)/\s.cell? ⟨nb,0,none⟩=some (.slice (some ⟨F,g,none⟩) M.n u)/\(s.cell? ⟨b,l+q*3,none⟩=some (.slice (A q) nf (C q))/\s.cell? ⟨b,l+q*3+1,none⟩=some (.slice (A' q) nt (C' q))/\s.cell? ⟨b,l+q*3+2,none⟩=some (.string ds))/\s.cell? ⟨F,g+q*3,none⟩=some (.slice (A2 q) nf (C2 q))/\s.cell? ⟨F,g+q*3+1,none⟩=some (.slice (Z q) nt (Y q))/\s.cell? ⟨F,g+q*3+2,none⟩=some (.string ds)) wr.drew:=⟨m0,n0,⟨c0,c1,c2⟩,d0,d1,d2⟩;have a3:Hid (∀ o:Obj,(fun s=>s.cell? ⟨L,0,none⟩=some (.slice (some ⟨b,l,none⟩) M.n D)/\s.cell? ⟨nb,0,none⟩=some (.slice (some ⟨F,g,none⟩) M.n u)/\(s.cell? ⟨b,l+q*3,none⟩=some (.slice (A q) nf (C q))/\s.cell? ⟨b,l+q*3+1,none⟩=some (.slice (A' q) nt (C' q))/\s.cell? ⟨b,l+q*3+2,none⟩=some (.string ds))/\s.cell? ⟨F,g+q*3,none⟩=some (.slice (A2 q) nf (C2 q))/\s.cell? ⟨F,g+q*3+1,none⟩=some (.slice (Z q) nt (Y q))/\s.cell? ⟨F,g+q*3+2,none⟩=some (.string ds)) (wr.drew.alloc o)/\∀ o',(fun s=>s.cell? ⟨L,0,none⟩=some (.slice (some ⟨b,l,none⟩) M.n D)/\s.cell? ⟨nb,0,none⟩=some (.slice (some ⟨F,g,none⟩) M.n u)/\(s.cell? ⟨b,l+q*3,none⟩=some (.slice (A q) nf (C q))/\s.cell? ⟨b,l+q*3+1,none⟩=some (.slice (A' q) nt (C' q))/\s.cell? ⟨b,l+q*3+2,none⟩=some (.string ds))/\s.cell? ⟨F,g+q*3,none⟩=some (.slice (A2 q) nf (C2 q))/\s.cell? ⟨F,g+q*3+1,none⟩=some (.slice (Z q) nt (Y q))/\s.cell? ⟨F,g+q*3+2,none⟩=some (.string ds)) ((wr.drew.alloc o).alloc o')):=qh fun o=>by
   have h1:Fr (fun _=>False) wr.drew (wr.drew.alloc o):=Fr.alloc _ _;have k:∀ {p:Addr} {v:Value},wr.drew.cell? p=some v->(wr.drew.alloc o).cell? p=some v:=fun hp=>h1.cell hp (fun e=>e);refine⟨⟨k m0,k n0,⟨k c0,k c1,k c2⟩,k d0,k d1,k d2⟩,fun o'=>?_⟩;have h2:Fr (fun _=>False) (wr.drew.alloc o) ((wr.drew.alloc o).alloc o'):=Fr.alloc _ _;have k2:∀ {p:Addr} {v:Value},wr.drew.cell? p=some v->((wr.drew.alloc o).alloc o').cell? p=some v:=fun hp=>h2.cell (k hp) (fun e=>e);exact⟨k2 m0,k2 n0,⟨k2 c0,k2 c1,k2 c2⟩,k2 d0,k2 d1,k2 d2⟩
  refine z0g (fun s=>s.cell? ⟨L,0,none⟩=some (.slice (some ⟨b,l,none⟩) M.n D)/\s.cell? ⟨nb,0,none⟩=some (.slice (some ⟨F,g,none⟩) M.n u)/\(s.cell? ⟨b,l+q*3,none⟩=some (.slice (A q) nf (C q))/\s.cell? ⟨b,l+q*3+1,none⟩=some (.slice (A' q) nt (C' q))/\s.cell? ⟨b,l+q*3+2,none⟩=some (.string ds))/\s.cell? ⟨F,g+q*3,none⟩=some (.slice (A2 q) nf (C2 q))/\s.cell? ⟨F,g+q*3+1,none⟩=some (.slice (Z q) nt (Y q))/\s.cell? ⟨F,g+q*3+2,none⟩=some (.string ds)) 13 (by kernel_rfl) ?_;refine z0b.tl 0 I (v:=?yf) ?xa ?xn
  case xa=>rintro s ⟨s1,s2,⟨s3,s4,s5⟩,s6,s7,s8⟩;go_simp;try with_reducible rfl
  refine z0b.tl 1 I (v:=?ya) ?xi ?xp
  case xi=>rintro s ⟨s1,s2,⟨s3,s4,s5⟩,s6,s7,s8⟩;go_simp;try with_reducible rfl
  refine z0b.tl 2 I (v:=?xz) ?xj ?xu
  case xj=>rintro s ⟨s1,s2,⟨s3,s4,s5⟩,s6,s7,s8⟩;go_simp;try with_reducible rfl
  refine z0b.tl 3 I (v:=?xx) ?xh ?xt
  case xh=>rintro s ⟨s1,s2,⟨s3,s4,s5⟩,s6,s7,s8⟩;go_simp;try with_reducible rfl
  refine z0b.tl 4 I (v:=?yc) ?xd ?xv
  case xd=>rintro s ⟨s1,s2,⟨s3,s4,s5⟩,s6,s7,s8⟩;go_simp;try with_reducible rfl
  refine z0b.tl 5 I (v:=?xw) ?xl ?xm
  case xl=>rintro s ⟨s1,s2,⟨s3,s4,s5⟩,s6,s7,s8⟩;go_simp;try with_reducible rfl
  refine z0b.tl 6 I (v:=?yh) ?xf ?xq
  case xf=>rintro s ⟨s1,s2,⟨s3,s4,s5⟩,s6,s7,s8⟩;go_simp;try with_reducible rfl
  refine z0b.tl 7 I (v:=?yi) ?xk ?xr
  case xk=>rintro s ⟨s1,s2,⟨s3,s4,s5⟩,s6,s7,s8⟩;go_simp;try with_reducible rfl
  refine z0b.tl 8 I (v:=?yg) ?xc ?xo
  case xc=>rintro s ⟨s1,s2,⟨s3,s4,s5⟩,s6,s7,s8⟩;go_simp;try with_reducible rfl
  refine z0b.tl 9 I (v:=?yd) ?xg ?xs
  case xg=>rintro s ⟨s1,s2,⟨s3,s4,s5⟩,s6,s7,s8⟩;go_simp;try with_reducible rfl
  try simp only[Act.put,tryL]
  clear m0 n0 c0 c1 c2 d0 d1 d2 I;refine z0b.two (i:=10) (j:=11) (by kernel_rfl) (v3n rfl rfl fun K J=>?_) (v3n rfl rfl fun K J=>?_)
  ·go_simp;refine J _ _ ⟨.inr (a3.out _).1,?_⟩;clear J K
   try simp only[Act.put,tryL]
   refine z0b.on 11 fun K J=>?_;go_simp;refine J.out _ _ (.inr ((a3.out _).2 _)) ?_;clear J K
   try simp only[Act.put,tryL]
   refine z0b.on 12 fun K J=>?_;go_simp;refine J.out _ _ (.inr ((a3.out _).2 _)) ?_;clear J K
   try simp only[Act.put,tryL]
   refine z0b.on 13 fun K J=>?_;go_simp;refine J.out _ _ (.inl rfl) (z0b.done (by kernel_rfl) ?_ _);clear J K;rw[<- c7,<- c6];obtain⟨W,hW⟩:∃ W,W=((wr.alloc ox).alloc oy).drew:=⟨_,rfl⟩;obtain⟨xb,T⟩:=exq (wr.heap.size);obtain⟨yb,X⟩:=exq (wr.heap.size+1);have N:Fr (fun _=>False) wr W:=by rw[hW];exact((Fr.alloc _ _).trans (Fr.alloc _ _)).drew
   have b4:W.heap[wr.heap.size]?=some ox:=by rw[hW];exact(blk_alloc_lt (wr.alloc ox) _ _ (by simp)).trans (heap_alloc_new wr ox)
   have P:W.heap[wr.heap.size+1]?=some oy:=by rw[hW,show wr.heap.size+1=(wr.alloc ox).heap.size by simp];exact heap_alloc_new (wr.alloc ox) oy
   have hX:W.heap[xb]?=some ox:=by rw[T];exact b4
   have hY:W.heap[yb]?=some oy:=by rw[X];exact P
   first|rw[<- hW,<- X,<- T] | (trace_state;fail)
   clear hW T X b4 P;subst c7 c6;have x0:=cell_of hX 0 rfl;have x1:=cell_of hX 1 rfl;have x2:=cell_of hX 2 rfl;have y0:=cell_of hY 0 rfl;have y1:=cell_of hY 1 rfl;have y2:=cell_of hY 2 rfl;have z:=B.out.trans (N.below B.out.size (fun _ e=>e.elim));have b1:=qh (show BoxE W L M (.slice (some ⟨b,l,none⟩) M.n D) from (N.block L Q.out.lt (fun e=>e)).trans Q.out);have a8:=qh (show BoxE W nb M (.slice (some ⟨F,g,none⟩) M.n u) from (N.block nb E.out.lt (fun e=>e)).trans E.out);have b0:=qh (y4h W (f2.out.kept (z0c z none)) (f8.out.kept (z0c z none)) (by omega) (by omega));have a9:Hid (∀ W',Below W.heap.size W W'->_):=qh fun W' h=>y4h W' (f0.out.kept (z0c (z.trans (h.mono z.size)) none)) (e5.out.kept (z0c (z.trans (h.mono z.size)) none)) (by omega) (by omega);have b7:=qh z;clear z;have HX:=qh hX;clear hX;have HY:=qh hY;clear hY N
   go_wp2_with fail
   refine b0.out.mono ?_;rintro rr S ⟨⟨c,rfl,hc⟩,O⟩;obtain rfl:c=0:=hc.2 (y4t _ _);have H:Fr (fun _=>False) W S:=Fr.of_below O;have e1:S.cell? ⟨xb,1,none⟩=some (.slice (A' q) nt (C' q)):=cell_of ((H.block xb (lt_of_block HX.out) (fun e=>e)).trans HX.out) 1 rfl;have e0:S.cell? ⟨yb,1,none⟩=some (.slice (Z q) nt (Y q)):=cell_of ((H.block yb (lt_of_block HY.out) (fun e=>e)).trans HY.out) 1 rfl;have b6:=qh (a9.out S O);have b5:=qh (b7.out.trans (O.mono b7.out.size));have a4:=qh (show BoxE S L M (.slice (some ⟨b,l,none⟩) M.n D) from (H.block L b1.out.lt (fun e=>e)).trans b1.out);have b3:=qh (show BoxE S nb M (.slice (some ⟨F,g,none⟩) M.n u) from (H.block nb a8.out.lt (fun e=>e)).trans a8.out);clear hc O H x0 x1 x2 y0 y1 y2 b0 a9
   go_wp2_with fail
   refine b6.out.mono ?_;rintro rr w6 ⟨⟨c,rfl,hc⟩,a1⟩;obtain rfl:c=0:=hc.2 (y4t _ _);have R:Fr (fun _=>False) S w6:=Fr.of_below a1;have d9:=qh (b5.out.trans (a1.mono b5.out.size));have d7:=qh (show BoxE w6 L M (.slice (some ⟨b,l,none⟩) M.n D) from (R.block L a4.out.lt (fun e=>e)).trans a4.out);have d8:=qh (show BoxE w6 nb M (.slice (some ⟨F,g,none⟩) M.n u) from (R.block nb b3.out.lt (fun e=>e)).trans b3.out);clear hc a1 R e1 e0 b6
   go_wp2_with fail
   go_roundw
   case rel=>exact⟨q+1,by omega,by go_num,d9.out,d7.out,d8.out⟩
   simp[intOf];omega
  go_simp;refine J _ _ ⟨.inr (a3.out _).1,?_⟩;clear J K
  try simp only[Act.put,tryL]
  refine z0b.on 10 fun K J=>?_;go_simp;refine J.out _ _ (.inr ((a3.out _).2 _)) ?_;clear J K
  try simp only[Act.put,tryL]
  refine z0b.on 12 fun K J=>?_;go_simp;refine J.out _ _ (.inr ((a3.out _).2 _)) ?_;clear J K
  try simp only[Act.put,tryL]
  refine z0b.on 13 fun K J=>?_;go_simp;refine J.out _ _ (.inl rfl) (z0b.done (by kernel_rfl) ?_ _);clear J K;rw[<- c7,<- c6];obtain⟨W,hW⟩:∃ W,W=((wr.alloc oy).alloc ox).drew:=⟨_,rfl⟩;obtain⟨xb,T⟩:=exq (wr.heap.size+1);obtain⟨yb,X⟩:=exq (wr.heap.size);have N:Fr (fun _=>False) wr W:=by rw[hW];exact((Fr.alloc _ _).trans (Fr.alloc _ _)).drew
  have b4:W.heap[wr.heap.size]?=some oy:=by rw[hW];exact(blk_alloc_lt (wr.alloc oy) _ _ (by simp)).trans (heap_alloc_new wr oy)
  have P:W.heap[wr.heap.size+1]?=some ox:=by rw[hW,show wr.heap.size+1=(wr.alloc oy).heap.size by simp];exact heap_alloc_new (wr.alloc oy) ox
  have hX:W.heap[xb]?=some ox:=by rw[T];exact P
  have hY:W.heap[yb]?=some oy:=by rw[X];exact b4
  first|rw[<- hW,<- T,<- X] | (trace_state;fail)
  clear hW T X b4 P;subst c7 c6;have x0:=cell_of hX 0 rfl;have x1:=cell_of hX 1 rfl;have x2:=cell_of hX 2 rfl;have y0:=cell_of hY 0 rfl;have y1:=cell_of hY 1 rfl;have y2:=cell_of hY 2 rfl;have z:=B.out.trans (N.below B.out.size (fun _ e=>e.elim));have b1:=qh (show BoxE W L M (.slice (some ⟨b,l,none⟩) M.n D) from (N.block L Q.out.lt (fun e=>e)).trans Q.out);have a8:=qh (show BoxE W nb M (.slice (some ⟨F,g,none⟩) M.n u) from (N.block nb E.out.lt (fun e=>e)).trans E.out);have b0:=qh (y4h W (f2.out.kept (z0c z none)) (f8.out.kept (z0c z none)) (by omega) (by omega));have a9:Hid (∀ W',Below W.heap.size W W'->_):=qh fun W' h=>y4h W' (f0.out.kept (z0c (z.trans (h.mono z.size)) none)) (e5.out.kept (z0c (z.trans (h.mono z.size)) none)) (by omega) (by omega);have b7:=qh z;clear z;have HX:=qh hX;clear hX;have HY:=qh hY;clear hY N
  go_wp2_with fail
  refine b0.out.mono ?_;rintro rr S ⟨⟨c,rfl,hc⟩,O⟩;obtain rfl:c=0:=hc.2 (y4t _ _);have H:Fr (fun _=>False) W S:=Fr.of_below O;have e1:S.cell? ⟨xb,1,none⟩=some (.slice (A' q) nt (C' q)):=cell_of ((H.block xb (lt_of_block HX.out) (fun e=>e)).trans HX.out) 1 rfl;have e0:S.cell? ⟨yb,1,none⟩=some (.slice (Z q) nt (Y q)):=cell_of ((H.block yb (lt_of_block HY.out) (fun e=>e)).trans HY.out) 1 rfl;have b6:=qh (a9.out S O);have b5:=qh (b7.out.trans (O.mono b7.out.size));have a4:=qh (show BoxE S L M (.slice (some ⟨b,l,none⟩) M.n D) from (H.block L b1.out.lt (fun e=>e)).trans b1.out);have b3:=qh (show BoxE S nb M (.slice (some ⟨F,g,none⟩) M.n u) from (H.block nb a8.out.lt (fun e=>e)).trans a8.out);clear hc O H x0 x1 x2 y0 y1 y2 b0 a9
  go_wp2_with fail
  refine b6.out.mono ?_;rintro rr w6 ⟨⟨c,rfl,hc⟩,a1⟩;obtain rfl:c=0:=hc.2 (y4t _ _);have R:Fr (fun _=>False) S w6:=Fr.of_below a1;have d9:=qh (b5.out.trans (a1.mono b5.out.size));have d7:=qh (show BoxE w6 L M (.slice (some ⟨b,l,none⟩) M.n D) from (R.block L a4.out.lt (fun e=>e)).trans a4.out);have d8:=qh (show BoxE w6 nb M (.slice (some ⟨F,g,none⟩) M.n u) from (R.block nb b3.out.lt (fun e=>e)).trans b3.out);clear hc a1 R e1 e0 b6
  go_wp2_with fail
  go_roundw
  case rel=>exact⟨q+1,by omega,by go_num,d9.out,d7.out,d8.out⟩
  simp[intOf];omega
 have h0:q=M.n:=by omega
 have g9:¬ ((q:Int)<(M.n:Int)):=by omega
 go_wp2_with fail
 go_ret;exact⟨rfl,B.out⟩
end
end Go.Proofs.YtjekapjbigfkbaaGreatDoor
