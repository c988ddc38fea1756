/- Ends: a part. Conditions: none. -/
import Derived.BigQuiet
import Derived.WalkKit
import Derived.Test.YtmanpggemmgnnaaGreatDoorA90
set_option linter.all false
namespace Go.Proofs.YtmanpggemmgnnaaGreatDoor
noncomputable section
open Go Go.RowKit
def ž:=@lt_of_block
namespace Fr
structure aj(S:Nat->Prop)(w U:World):Prop where
 os:U.os=w.os
 tape:U.tape=w.tape
 output:U.output=w.output
 size:w.heap.size<=U.heap.size
 block:∀k,k<w.heap.size->¬S k->U.heap[k]? =w.heap[k]?
def aj.refl S w:aj S w w:=⟨rfl,rfl,rfl,aI _,λ_ _ _=>rfl⟩
def aj.trans{S a b c}(h:aj S a b)(k:aj S b c):aj S a c:=
 ⟨k.os.trans h.os,k.tape.trans h.tape,k.output.trans h.output,cV h.size k.size,λi hi hs=>(k.block i (eJ hi h.size) hs).trans (h.block i hi hs)⟩
def aj.nK{a b}(h:Below a.heap.size a b):aj (λ_=>False) a b:=⟨h.os,h.tape,h.output,h.size,λi hi _=>h.block i hi⟩
def aj.trans'{S a b S' c}(h:aj S a b)(k:aj S' b c)(hs:∀i,i<a.heap.size->S' i->S i):aj S a c:=
 ⟨k.os.trans h.os,k.tape.trans h.tape,k.output.trans h.output,cV h.size k.size,λi hi Q=>(k.block i (eJ hi h.size) (λe=>Q (hs i hi e))).trans (h.block i hi Q)⟩
def aj.mono{S a b S'}(h:aj S a b)(hs:∀k,k<a.heap.size->S k->S' k):aj S' a b:=
 ⟨h.os,h.tape,h.output,h.size,λi hi Q=>h.block i hi (λe=>Q (hs i hi e))⟩
def aj.jU{B a b S}(h:Below B a b)(hs:∀k,k<a.heap.size->B<=k->S k):aj S a b:=
 ⟨h.os,h.tape,h.output,h.size,λi hi Q=>h.block i (by by_cases e:i<B;exact e;exact absurd (hs i hi (by omega)) Q)⟩
def aj.below{S a b B}(h:aj S a b)(hB:B<=a.heap.size)(hs:∀k,S k->B<=k):Below B a b:=
 ⟨h.os,h.tape,h.output,h.size,λi hi=>h.block i (by omega) (λe=>by have:=hs i e;omega)⟩
def aj.alloc{S a b}(h:aj S a b)o:aj S a (b.alloc o):=
 ⟨h.os,h.tape,h.output,by rw[World.size_alloc];exact jx h.size,λi hi Q=>(Below.heap_alloc b o i (eJ hi h.size)).trans (h.block i hi Q)⟩
def aj.setCell{S a b p}(h:aj S a b)(hp:S p.block\/a.heap.size<=p.block)u:aj S a (b.setCell p u):=
 ⟨h.os,h.tape,h.output,by simpa using h.size,λi hi Q=>(Below.heap_setCell b p u i (λe=>by subst e;rcases hp with hp|hp;exact Q hp;omega)).trans (h.block i hi Q)⟩
def aj.drew{S a b}(h:aj S a b):aj S a b.drew:=⟨h.os,h.tape,h.output,h.size,h.block⟩
def aj.drewN{S a b}(h:aj S a b)n:aj S a (b.drewN n):=⟨h.os,h.tape,h.output,h.size,h.block⟩
def aj.grown{S a b c row}(h:aj S a b)(hg:b.grownBy c row)(Y:∀k,row=some k->S k\/a.heap.size<=k):aj S a c:=
 ⟨hg.os.trans h.os,hg.tape.trans h.tape,hg.output.trans h.output,cV h.size hg.size,λi hi Q=>
   (hg.block i (eJ hi h.size) (λe=>by rcases Y i e.symm with x|x;exact Q x;omega)).trans (h.block i hi Q)⟩
def aj.cell{S a b p}(h:aj S a b)(hp:p.block<a.heap.size)(Q:¬S p.block):b.cell? p=a.cell? p:=World.cell?_of_block (w:=a) (h.block p.block hp Q)
def aj.frozen{S a b p}(h:aj S a b)(hp:p.block<a.heap.size)(Q:¬S p.block):b.frozen? p=a.frozen? p:=World.frozen?_of_block (w:=a) (h.block p.block hp Q)
def aj.bB{S a b p v}(h:aj S a b)(X:a.cell? p=some v)(Q:¬S p.block):b.cell? p=some v:=(h.cell (World.block_lt_of_cell? a p X) Q).trans X
def aj.ownsRow{S a b v xs}(h:aj S a b){B hx z n:Nat}(X:a.ownsRow B hx z v n xs)(Q:∀k,v.ownBlock=some k->¬S k):b.ownsRow B hx z v n xs:=by
 obtain⟨hl,L⟩:=X;refine⟨hl,?_⟩;rcases L with L|⟨g,cap,cur,rfl,V,J,h3⟩
 ·exact .inl L
 ·exact .inr ⟨g,cap,cur,rfl,V,(h.block g (ž J) (Q g rfl)).trans J,h3⟩
def nE(w:World)(b:Nat)(t:TypeId)(x y:Value):Prop:=w.heap[b]? =some (.cells #[x,y] t (0,0))
section
variable {w:World}{b:Nat}{t:TypeId}{x y u:Value}
def nE.c0(h:nE w b t x y):w.cell? ⟨b,0,none⟩=some x:=by unfold nE at h;simp[World.cell?,h]
def nE.c1(h:nE w b t x y):w.cell? ⟨b,1,none⟩=some y:=by unfold nE at h;simp[World.cell?,h]
def nE.f0(h:nE w b t x y):w.frozen? ⟨b,0,none⟩=false:=by unfold nE at h;simp[World.frozen?,h]
def nE.f1(h:nE w b t x y):w.frozen? ⟨b,1,none⟩=false:=by unfold nE at h;simp[World.frozen?,h]
def nE.lt(h:nE w b t x y):b<w.heap.size:=ž h
def nE.aMT(h:nE w b t x y):nE (w.setCell ⟨b,1,none⟩ u) b t x u:=by unfold nE at *;have hb:b<w.heap.size:=ž h;simp[World.setCell,gC,h]
def nE.aA{S U}(h:nE w b t x y)(L:aj S w U)(Q:¬S b):nE U b t x y:=(L.block b h.lt Q).trans h
end
end Fr
