/- Races: a part. Conditions: none. -/
import Derived.BigQuiet
import Derived.WalkKit
set_option linter.all false
namespace Go.Proofs.YtmanpggemmgnnaaGreatDoor
noncomputable section
open Go Go.RowKit
namespace Fr
structure aj (S:Nat->Prop) (w w':World):Prop where
 os:w'.os=w.os
 tape:w'.tape=w.tape
 output:w'.output=w.output
 size:w.heap.size<=w'.heap.size
 block:∀k,k<w.heap.size->¬S k->w'.heap[k]? =w.heap[k]?
theorem aj.refl (S:Nat->Prop) (w:World):aj S w w:=⟨rfl,rfl,rfl,Nat.le_refl _,λ_ _ _=>rfl⟩
theorem aj.trans {S:Nat->Prop} {a b c:World} (h:aj S a b) (k:aj S b c):aj S a c:=
 ⟨k.os.trans h.os,k.tape.trans h.tape,k.output.trans h.output,Nat.le_trans h.size k.size,λi hi hs=>(k.block i (Nat.lt_of_lt_of_le hi h.size) hs).trans (h.block i hi hs)⟩
theorem aj.nK {a b:World} (h:Below a.heap.size a b):aj (λ_=>False) a b:=⟨h.os,h.tape,h.output,h.size,λi hi _=>h.block i hi⟩
theorem aj.trans' {S S':Nat->Prop} {a b c:World} (h:aj S a b) (k:aj S' b c) (hs:∀i,i<a.heap.size->S' i->S i):aj S a c:=
 ⟨k.os.trans h.os,k.tape.trans h.tape,k.output.trans h.output,Nat.le_trans h.size k.size,λi hi hn=>(k.block i (Nat.lt_of_lt_of_le hi h.size) (λe=>hn (hs i hi e))).trans (h.block i hi hn)⟩
theorem aj.mono {S S':Nat->Prop} {a b:World} (h:aj S a b) (hs:∀k,k<a.heap.size->S k->S' k):aj S' a b:=
 ⟨h.os,h.tape,h.output,h.size,λi hi hn=>h.block i hi (λe=>hn (hs i hi e))⟩
theorem aj.jU {S:Nat->Prop} {B:Nat} {a b:World} (h:Below B a b) (hs:∀k,k<a.heap.size->B<=k->S k):aj S a b:=
 ⟨h.os,h.tape,h.output,h.size,λi hi hn=>h.block i (by by_cases e:i<B;exact e;exact absurd (hs i hi (by omega)) hn)⟩
theorem aj.below {S:Nat->Prop} {B:Nat} {a b:World} (h:aj S a b) (hB:B<=a.heap.size) (hs:∀k,S k->B<=k):Below B a b:=
 ⟨h.os,h.tape,h.output,h.size,λi hi=>h.block i (by omega) (λe=>by have:=hs i e;omega)⟩
theorem aj.alloc {S:Nat->Prop} {a b:World} (h:aj S a b) (o:Obj):aj S a (b.alloc o):=
 ⟨h.os,h.tape,h.output,by rw [World.size_alloc];exact Nat.le_succ_of_le h.size,λi hi hn=>(Below.heap_alloc b o i (Nat.lt_of_lt_of_le hi h.size)).trans (h.block i hi hn)⟩
theorem aj.setCell {S:Nat->Prop} {a b:World} (h:aj S a b) {p:Addr} (hp:S p.block\/a.heap.size<=p.block) (u:Value):aj S a (b.setCell p u):=
 ⟨h.os,h.tape,h.output,by simpa using h.size,λi hi hn=>(Below.heap_setCell b p u i (λe=>by subst e;rcases hp with hp|hp;exact hn hp;omega)).trans (h.block i hi hn)⟩
theorem aj.drew {S:Nat->Prop} {a b:World} (h:aj S a b):aj S a b.drew:=⟨h.os,h.tape,h.output,h.size,h.block⟩
theorem aj.drewN {S:Nat->Prop} {a b:World} (h:aj S a b) (n:Nat):aj S a (b.drewN n):=⟨h.os,h.tape,h.output,h.size,h.block⟩
theorem aj.grown {S:Nat->Prop} {a b c:World} {row:Option Nat} (h:aj S a b) (hg:b.grownBy c row) (hr:∀k,row=some k->S k\/a.heap.size<=k):aj S a c:=
 ⟨hg.os.trans h.os,hg.tape.trans h.tape,hg.output.trans h.output,Nat.le_trans h.size hg.size,λi hi hn=>
   (hg.block i (Nat.lt_of_lt_of_le hi h.size) (λe=>by rcases hr i e.symm with x|x;exact hn x;omega)).trans (h.block i hi hn)⟩
theorem aj.cell {S:Nat->Prop} {a b:World} (h:aj S a b) {p:Addr} (hp:p.block<a.heap.size) (hn:¬S p.block):b.cell? p=a.cell? p:=World.cell?_of_block (w:=a) (h.block p.block hp hn)
theorem aj.bB {S:Nat->Prop} {a b:World} (h:aj S a b) {p:Addr} {v:Value} (hv:a.cell? p=some v) (hn:¬S p.block):b.cell? p=some v:=(h.cell (World.block_lt_of_cell? a p hv) hn).trans hv
theorem aj.ownsRow {S:Nat->Prop} {a b:World} (h:aj S a b) {B E z n:Nat} {v:Value} {xs:List Value} (hv:a.ownsRow B E z v n xs) (hn:∀k,v.ownBlock=some k->¬S k):b.ownsRow B E z v n xs:=by
 obtain ⟨hl,hc⟩:=hv;refine ⟨hl,?_⟩;rcases hc with hc|⟨g,cap,cur,rfl,h1,h2,h3⟩
 ·exact .inl hc
 ·exact .inr ⟨g,cap,cur,rfl,h1,(h.block g (lt_of_block h2) (hn g rfl)).trans h2,h3⟩
def nE (w:World) (b:Nat) (t:TypeId) (x y:Value):Prop:=w.heap[b]? =some (.cells #[x,y] t (0,0))
section
variable {w:World} {b:Nat} {t:TypeId} {x y u:Value}
theorem nE.c1 (h:nE w b t x y):w.cell? ⟨b,1,none⟩=some y:=by unfold nE at h;simp [World.cell?,h]
theorem nE.f1 (h:nE w b t x y):w.frozen? ⟨b,1,none⟩=false:=by unfold nE at h;simp [World.frozen?,h]
theorem nE.lt (h:nE w b t x y):b<w.heap.size:=lt_of_block h
theorem nE.aMT (h:nE w b t x y):nE (w.setCell ⟨b,1,none⟩ u) b t x u:=by unfold nE at *;have hb:b<w.heap.size:=lt_of_block h;simp [World.setCell,Array.getElem?_modify,h]
theorem nE.aA {S:Nat->Prop} {w':World} (h:nE w b t x y) (hc:aj S w w') (hn:¬S b):nE w' b t x y:=(hc.block b h.lt hn).trans h
end
end Fr
end
end Go.Proofs.YtmanpggemmgnnaaGreatDoor
