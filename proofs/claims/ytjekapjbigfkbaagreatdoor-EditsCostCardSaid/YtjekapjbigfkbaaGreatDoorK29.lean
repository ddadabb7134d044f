/- Parts of a proof: EdA. -/
import Derived.Test.YtjekapjbigfkbaaGreatDoorK28
namespace Go.Proofs.YtjekapjbigfkbaaGreatDoor
open Go Go.RowKit Go.Deep
set_option maxRecDepth 100000
set_option linter.unusedSimpArgs false
structure Tq (w:World) (B g n1 n2 k:Nat) (r:Nat→Nat) (S:Nat→Nat→Value) (L:Nat→Nat→Nat):Prop where
 top:w.rowIs g 66 n1 (fun q=>if q < k then .slice (some ⟨r q,0,none⟩) n2 n2 else .slice none 0 0)
 base:B≤g
 mid:∀ q,q < k→w.rowIs (r q) 67 n2 (S q)∧B≤r q
 rinj:∀ q q',q < k→q' < k→r q=r q'→q=q'
 row:∀ q i,q < k→i < n2→w.ownsRow B 9 1 (S q i) (L q i) (strs (L q i) (fun _=>infS))
 apart:∀ q i q' i',q < k→i < n2→q' < k→i' < n2→¬ (q=q'∧i=i')→∀ b,(S q i).ownBlock=some b→(S q' i').ownBlock≠some b
namespace Tq
variable {w w':World} {B g n1 n2 k:Nat} {r:Nat→Nat} {S:Nat→Nat→Value} {L:Nat→Nat→Nat}
theorem kept {C:Nat→Prop} (h:Tq w B g n1 n2 k r S L) (hf:Fr C w w') (h1:¬ C g) (h2:∀ q,q < k→¬ C (r q)) (h3:∀ q i b,q < k→i < n2→(S q i).ownBlock=some b→¬ C b):Tq w' B g n1 n2 k r S L:=by
 refine ⟨hf.row h.top h1,h.base,fun q hq=>⟨hf.row (h.mid q hq).1 (h2 q hq),(h.mid q hq).2⟩,h.rinj,fun q i hq hi=>?_,h.apart⟩
 refine ⟨(h.row q i hq hi).1,?_⟩
 rcases (h.row q i hq hi).2 with hn | ⟨gg,cap,cur,hv,h0,hgg,h4⟩
 ·exact .inl hn
 ·exact .inr ⟨gg,cap,cur,hv,h0,(hf.block gg (lt_of_block hgg) (h3 q i gg hq hi (by rw [hv];rfl))).trans hgg,h4⟩
theorem new (h:Tq w B g n1 n2 k r S L) (hf:Fr (fun _=>False) w w'):Tq w' B g n1 n2 k r S L:=h.kept hf (fun e=>e) (fun _ _ e=>e) (fun _ _ _ _ _ _ e=>e)
theorem made (w:World) (hB:B≤w.heap.size) (n1 n2:Nat):Tq (w.alloc (.cells (madeCells #[.slice none 0 0] n1) 66)) B w.heap.size n1 n2 0 (fun _=>0) (fun _ _=>.slice none 0 0) (fun _ _=>0):=by
 refine ⟨(World.rowIs_made w _ n1 _).congr (fun q _=>?_),hB,fun q hq=>absurd hq (Nat.not_lt_zero _),fun q _ hq=>absurd hq (Nat.not_lt_zero _),fun q _ hq=>absurd hq (Nat.not_lt_zero _),fun q _ _ _ hq=>absurd hq (Nat.not_lt_zero _)⟩
 rw [if_neg (Nat.not_lt_zero _)]
theorem addRow (h:Tq w B g n1 n2 k r S L) (hB:B≤w.heap.size) :
  Tq ((w.setCell ⟨g,k,none⟩ (.slice (some ⟨w.heap.size,0,none⟩) n2 n2)).alloc (.cells (madeCells #[.slice none 0 0] n2) 67)) B g n1 n2 (k+1) (fun q=>if q=k then w.heap.size else r q) (fun q=>if q=k then fun _=>.slice none 0 0 else S q) (fun q=>if q=k then fun _=>0 else L q):=by
 have hlt:=h.top.lt
 rw [← World.setCell_alloc_past _ _ _ _ hlt]
 obtain ⟨o,ho⟩:∃ o,o=Obj.cells (madeCells #[.slice none 0 0] n2) 67:=⟨_,rfl⟩
 have hn:=World.rowIs_made w (.slice none 0 0) n2 67
 rw [← ho] at hn
 rw [← ho]
 have h1:=h.new (Fr.alloc w o)
 have hf:Fr (fun q=>q=g) (w.alloc o) ((w.alloc o).setCell ⟨g,k,none⟩ (.slice (some ⟨w.heap.size,0,none⟩) n2 n2)):=(Fr.refl (fun q=>q=g) _).set (p:=⟨g,k,none⟩) (.inl rfl) _
 have hrg:∀ q,q < k→r q≠g:=fun q hq=>rowIs_ne (h.mid q hq).1 h.top (by decide)
 have hsg:∀ q i b,q < k→i < n2→(S q i).ownBlock=some b→b≠g:=fun q i b hq hi hb e=>own_row (h.row q i hq hi) h.top (by decide) (by rw [hb,e])
 refine ⟨(h1.top.set k _).congr (fun q hq=>?_),h.base,fun q hq=>?_,fun q q' hq hq' he=>?_,fun q i hq hi=>?_,fun q i q' i' hq hi hq' hi' hne b hb=>?_⟩
 ·by_cases e:q=k
  ·subst e;simp
  ·simp only [if_neg e]
   by_cases e2:q < k
   ·rw [if_pos e2,if_pos (by omega)]
   ·rw [if_neg e2,if_neg (by omega)]
 ·by_cases e:q=k
  ·simp only [if_pos e];exact ⟨hn.setOther (by show w.heap.size≠g;omega) _,hB⟩
  ·simp only [if_neg e];exact ⟨hf.row (h1.mid q (by omega)).1 (hrg q (by omega)),(h.mid q (by omega)).2⟩
 ·by_cases e:q=k
  ·by_cases e':q'=k
   ·omega
   ·simp only [if_pos e,if_neg e'] at he;have:=(h.mid q' (by omega)).1.lt;omega
  ·by_cases e':q'=k
   ·simp only [if_neg e,if_pos e'] at he;have:=(h.mid q (by omega)).1.lt;omega
   ·simp only [if_neg e,if_neg e'] at he;exact h.rinj q q' (by omega) (by omega) he
 ·by_cases e:q=k
  ·simp only [if_pos e];exact World.ownsRow_nil _ _ _ _
  ·simp only [if_neg e]
   exact row_kept (h1.row q i (by omega) hi) (z:=some g) (Fr.gb (hf.mono (fun q _ e=>by rw [e]))) (fun b hb e=>hsg q i b (by omega) hi hb (Option.some.inj e).symm)
 ·by_cases e:q=k
  ·simp only [if_pos e] at hb;cases hb
  ·simp only [if_neg e] at hb
   by_cases e':q'=k
   ·simp only [if_pos e'];intro h';cases h'
   ·simp only [if_neg e'];exact h.apart q i q' i' (by omega) hi (by omega) hi' hne b hb
theorem app {wz w1:World} {q i go cp:Nat} (h:Tq w B g n1 n2 k r S L) (hq:q < k) (hi:i < n2) (hf:Fr (fun _=>False) w wz)
  (hown:w1.ownsRow B 9 1 (.slice (some ⟨go,0,none⟩) (L q i+1) cp) (L q i+1) (strs (L q i) (fun _=>infS)++[.string infS])) (hg:wz.grownBy w1 (S q i).ownBlock) (hat:(S q i).ownBlock=some go∨go=wz.heap.size) :
  Tq (w1.setCell ⟨r q,i,none⟩ (.slice (some ⟨go,0,none⟩) (L q i+1) cp)) B g n1 n2 k r (fun a b=>if a=q∧b=i then .slice (some ⟨go,0,none⟩) (L q i+1) cp else S a b) (fun a b=>if a=q∧b=i then L q i+1 else L a b):=by
 have hz:=h.new hf
 have hf1:Fr (fun b=>(S q i).ownBlock=some b) wz w1:=Fr.of_gb hg (fun _ e=>e)
 have hrow:∀ {b m:Nat} {t:TypeId} {F:Nat→Value},wz.rowIs b t m F→t≠9→(S q i).ownBlock≠some b:=fun hr ht e=>own_row (hz.row q i hq hi) hr ht e
 have hgr:∀ a,a < k→r a≠g:=fun a ha=>rowIs_ne (h.mid a ha).1 h.top (by decide)
 have hgo:∀ {b m:Nat} {t:TypeId} {F:Nat→Value},wz.rowIs b t m F→t≠9→b≠go:=fun hr ht e=>by
  rcases hat with e2 | e2
  ·exact hrow hr ht (by rw [e];exact e2)
  ·have:=hr.lt;omega
 have htop:w1.rowIs g 66 n1 _:=hf1.row hz.top (hrow hz.top (by decide))
 have hmid:∀ a,a < k→w1.rowIs (r a) 67 n2 (S a):=fun a ha=>hf1.row (hz.mid a ha).1 (hrow (hz.mid a ha).1 (by decide))
 have hfs:Fr (fun b=>b=r q) w1 (w1.setCell ⟨r q,i,none⟩ (.slice (some ⟨go,0,none⟩) (L q i+1) cp)):=(Fr.refl (fun b=>b=r q) _).set (p:=⟨r q,i,none⟩) (.inl rfl) _
 refine ⟨hfs.row htop (fun e=>hgr q hq e.symm),h.base,fun a ha=>⟨?_,(h.mid a ha).2⟩,h.rinj,fun a b ha hb=>?_,fun a b a' b' ha hb ha' hb' hne c hc=>?_⟩
 ·by_cases e:a=q
  ·subst e
   exact ((hmid a ha).set i _).congr fun b _=>by
    by_cases e:b=i
    ·simp [e]
    ·simp [e]
  ·exact (hfs.row (hmid a ha) (fun e2=>e (h.rinj a q ha hq e2))).congr fun b _=>by simp [e]
 ·by_cases e:a=q∧b=i
  ·obtain ⟨rfl,rfl⟩:=e
   simp only [and_self,if_true]
   have:=row_kept hown (z:=some (r a)) (Fr.gb (hfs.mono (fun b _ e=>by rw [e]))) (fun c hc e2=>by
    have e3:go=c:=by simpa [Value.ownBlock] using hc
    exact hgo (hz.mid a ha).1 (by decide) (by rw [e3];exact Option.some.inj e2))
   rw [strs_snoc (L a b) (fun _=>infS)] at this
   exact this
  ·simp only [if_neg e]
   have h1:=row_kept (hz.row a b ha hb) hg (fun c hc e2=>h.apart a b q i ha hb hq hi e c hc e2)
   exact row_kept h1 (z:=some (r q)) (Fr.gb (hfs.mono (fun b _ e=>by rw [e]))) (fun c hc e2=>own_row h1 (hmid q hq) (by decide) (by rw [hc,← e2]))
 ·by_cases e:a=q∧b=i
  ·obtain ⟨rfl,rfl⟩:=e
   simp only [and_self,if_true] at hc
   have hc':go=c:=by simpa [Value.ownBlock] using hc
   have e2:¬ (a'=a∧b'=b):=fun h=>hne ⟨h.1.symm,h.2.symm⟩
   simp only [if_neg e2]
   rcases hat with e3 | e3
   ·rw [← hc'];exact h.apart a b a' b' ha hb ha' hb' hne go e3
   ·intro e4;have:=(World.ownsRow.lt (hz.row a' b' ha' hb') c e4).2;omega
  ·simp only [if_neg e] at hc
   by_cases e2:a'=q∧b'=i
   ·obtain ⟨rfl,rfl⟩:=e2
    simp only [and_self,if_true]
    intro e4
    have e5:go=c:=by simpa [Value.ownBlock] using e4
    rcases hat with e3 | e3
    ·exact h.apart a b a' b' ha hb ha' hb' hne c hc (by rw [e3,e5])
    ·have:=(World.ownsRow.lt (hz.row a b ha hb) c hc).2;omega
   ·simp only [if_neg e2];exact h.apart a b a' b' ha hb ha' hb' hne c hc
end Tq
structure Cv (w:World) (B g n1 n2 n3:Nat) (r:Nat→Nat) (s c:Nat→Nat→Nat) (X:XT):Prop where
 top:w.rowIs g 66 n1 (fun q=>.slice (some ⟨r q,0,none⟩) n2 n2)
 mid:∀ q,q < n1→w.rowIs (r q) 67 n2 (fun i=>.slice (some ⟨s q i,0,none⟩) n3 (c q i))
 row:∀ q i,q < n1→i < n2→w.ownsRow B 9 1 (.slice (some ⟨s q i,0,none⟩) n3 (c q i)) n3 (strs n3 (X q i))
 inj:∀ q i q' i',q < n1→i < n2→q' < n1→i' < n2→s q i=s q' i'→q=q'∧i=i'
 sm:∀ q i j,smS (X q i j)
theorem inf_sm:smS infS:=by unfold smS;decide
theorem Tq.cv {w:World} {B g n1 n2 n3:Nat} {r:Nat→Nat} {S:Nat→Nat→Value} {L:Nat→Nat→Nat} (h:Tq w B g n1 n2 n1 r S L) (hL:∀ q i,q < n1→i < n2→L q i=n3) (h3:0 < n3):∃ s c,Cv w B g n1 n2 n3 r s c (fun _ _ _=>infS):=by
 classical
 have hall:∀ q i,∃ t:Nat × Nat,q < n1→i < n2→S q i=.slice (some ⟨t.1,0,none⟩) n3 t.2:=fun q i=>by
  by_cases hq:q < n1∧i < n2
  ·obtain ⟨b,cp,hv,_⟩:=row_shape (h.row q i hq.1 hq.2) (by rw [hL q i hq.1 hq.2];exact h3)
   exact ⟨(b,cp),fun h1 h2=>by rw [hv,hL q i h1 h2]⟩
  ·exact ⟨(0,0),fun h1 h2=>absurd ⟨h1,h2⟩ hq⟩
 obtain ⟨T,hT⟩:∃ T:Nat→Nat→Nat × Nat,∀ q i,q < n1→i < n2→S q i=.slice (some ⟨(T q i).1,0,none⟩) n3 (T q i).2:=⟨fun q i=>Classical.choose (hall q i),fun q i=>Classical.choose_spec (hall q i)⟩
 refine ⟨fun q i=>(T q i).1,fun q i=>(T q i).2,h.top.congr (fun q hq=>if_pos hq),fun q hq=>(h.mid q hq).1.congr (fun i hi=>hT q i hq hi),fun q i hq hi=>?_,fun q i q' i' hq hi hq' hi' he=>?_,fun _ _ _=>inf_sm⟩
 ·have:=h.row q i hq hi
  rw [hL q i hq hi,hT q i hq hi] at this;exact this
 ·by_cases e:q=q'∧i=i'
  ·exact e
  ·exfalso
   refine h.apart q i q' i' hq hi hq' hi' e (T q i).1 (by rw [hT q i hq hi];rfl) (by rw [hT q' i' hq' hi',he];rfl)
namespace Cv
variable {w w':World} {B g n1 n2 n3:Nat} {r:Nat→Nat} {s c:Nat→Nat→Nat} {X:XT}
theorem c1 (h:Cv w B g n1 n2 n3 r s c X) {k:Nat} (hk:k < n1):w.cell? ⟨g,k,none⟩=some (.slice (some ⟨r k,0,none⟩) n2 n2):=h.top.cell hk
theorem c2 (h:Cv w B g n1 n2 n3 r s c X) {k i:Nat} (hk:k < n1) (hi:i < n2):w.cell? ⟨r k,i,none⟩=some (.slice (some ⟨s k i,0,none⟩) n3 (c k i)):=(h.mid k hk).cell hi
theorem c3 (h:Cv w B g n1 n2 n3 r s c X) {k i j:Nat} (hk:k < n1) (hi:i < n2) (hj:j < n3):w.cell? ⟨s k i,j,none⟩=some (.string (X k i j)):=row_cell (h.row k i hk hi) (strs_get n3 (X k i) j hj)
theorem f3 (h:Cv w B g n1 n2 n3 r s c X) {k i:Nat} (hk:k < n1) (hi:i < n2) (j:Nat):w.frozen? ⟨s k i,j,none⟩=false:=row_free (h.row k i hk hi) j
theorem slt (h:Cv w B g n1 n2 n3 r s c X) {k i:Nat} (hk:k < n1) (hi:i < n2):B≤s k i∧s k i < w.heap.size:=World.ownsRow.lt (h.row k i hk hi) _ rfl
theorem blk (h:Cv w B g n1 n2 n3 r s c X) {k i:Nat} (hk:k < n1) (hi:i < n2):∃ cs,w.heap[s k i]?=some (.cells cs 9 (0,0)):=by
 rcases (h.row k i hk hi).2 with ⟨hv,_⟩ | ⟨gg,cap,cur,hv,h0,hgg,h4⟩
 ·cases hv
 ·cases hv;exact ⟨cur,hgg⟩
theorem kept {C:Nat→Prop} (h:Cv w B g n1 n2 n3 r s c X) (hf:Fr C w w') (h1:¬ C g) (h2:∀ q,q < n1→¬ C (r q)) (h3:∀ q i,q < n1→i < n2→¬ C (s q i)):Cv w' B g n1 n2 n3 r s c X:=by
 refine ⟨hf.row h.top h1,fun q hq=>hf.row (h.mid q hq) (h2 q hq),fun q i hq hi=>⟨(h.row q i hq hi).1,?_⟩,h.inj,h.sm⟩
 rcases (h.row q i hq hi).2 with hn | ⟨gg,cap,cur,hv,h0,hgg,h4⟩
 ·exact .inl hn
 ·refine .inr ⟨gg,cap,cur,hv,h0,(hf.block gg (lt_of_block hgg) ?_).trans hgg,h4⟩
  cases hv;exact h3 q i hq hi
theorem new (h:Cv w B g n1 n2 n3 r s c X) (hf:Fr (fun _=>False) w w'):Cv w' B g n1 n2 n3 r s c X:=h.kept hf (fun e=>e) (fun _ _ e=>e) (fun _ _ _ _ e=>e)
theorem set (h:Cv w B g n1 n2 n3 r s c X) {k i j:Nat} {v:ByteArray} (hk:k < n1) (hi:i < n2) (hj:j < n3) (hv:smS v):Cv (w.setCell ⟨s k i,j,none⟩ (.string v)) B g n1 n2 n3 r s c (updX X k i j v):=by
 obtain ⟨cs,hb⟩:=h.blk hk hi
 have hf:Fr (fun q=>q=s k i) w (w.setCell ⟨s k i,j,none⟩ (.string v)):=(Fr.refl (fun q=>q=s k i) w).set (p:=⟨s k i,j,none⟩) (.inl rfl) _
 refine ⟨hf.row h.top (rowIs_blk h.top hb (by decide)),fun q hq=>hf.row (h.mid q hq) (rowIs_blk (h.mid q hq) hb (by decide)),fun q i' hq hi'=>?_,h.inj,fun q i' j'=>?_⟩
 ·by_cases e:q=k∧i'=i
  ·obtain ⟨rfl,rfl⟩:=e
   have h1:=OwS.set (show OwS w B 9 _ n3 (X q i') from h.row q i' hq hi') hj v
   exact OwS.congr h1 (fun j' _=>by
    unfold updX
    by_cases e:j'=j
    ·simp [e]
    ·simp [e])
  ·have h1:=row_kept (h.row q i' hq hi') (z:=some (s k i)) (Fr.gb (hf.mono (fun q _ e=>by rw [e]))) (fun b hb e2=>by
    have e3:s q i'=b:=by simpa [Value.ownBlock] using hb
    exact e (h.inj q i' k i hq hi' hk hi (by rw [e3];exact (Option.some.inj e2).symm)))
   rw [strs_congr (Y:=updX X k i j v q i') (fun j' _=>by unfold updX;rw [if_neg (fun h=>e ⟨h.1,h.2.1⟩)])] at h1
   exact h1
 ·unfold updX;split
  ·exact hv
  ·exact h.sm q i' j'
end Cv
end Go.Proofs.YtjekapjbigfkbaaGreatDoor
