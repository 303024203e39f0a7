/- Small laws on memory, used by the walks of this seat. Data in memory: what cells read as, whatever the types; kept while the blocks that are read stay. The document's data, as plain data and in memory. Plain functions on the document's data, and its cells for a walk. The contract of publisherref04.Plain. Contracts of chars.Space, Digit, Letter, Lower: what they are of a code point. Contracts of the code point readers of publisherref01 and of white space, over this seat's translation. The contract of publisherref01.at: the code point at a byte is the one that UTF-8 decoding gives. Contracts of publisherref01.Lower, in, Letter, bytes, Text. Contracts of attr.letter, inName, wordEnd, Name. The contract of publisherref04.Plain. -/
import Derived.Test.YtkfnkeflalcphaaGreatDoorProg
import Derived.BigQuiet
import Derived.Lib.Hide
import Derived.WalkLawsBesides
import Derived.Lib.Strings
import Derived.Test.YtkfnkeflalcphaaGreatDoorMPlFold
set_option maxHeartbeats 4000000
set_option maxRecDepth 100000
open Go.Lib (hid)
namespace Go.Proofs.YtkfnkeflalcphaaGreatDoor
open Tryz
open Go.RowKit.Below renaming refl->jK7
open Nat renaming le_refl->jK8,zero_le->jL3
open Bool renaming eq_iff_iff->jKk
open Go renaming World->jN9,Value->jNk
open Go.RowKit
theorem UW {B:Nat} {e:TypeId} {k:Nat} {v:jNk} {n:Nat} {xs:List jNk} {w w':jN9} (h:w.ownsRow B e k v n xs) (hb:Below w.heap.size w w'):w'.ownsRow B e k v n xs:=
 h.kept (row:=none) ⟨hb.os,hb.tape,hb.output,hb.size,fun i hi _=>hb.block i hi⟩ (by cases v.ownBlock<;>simp)
theorem below_app {B:Nat} {w wr w1:jN9} {e:TypeId} {k:Nat} {v:jNk} {n:Nat} {xs:List jNk} {o:Obj} (hbel:Below B w wr) (hB:B<=wr.heap.size) (hown:wr.ownsRow B e k v n xs) (hg:(wr.alloc o).grownBy w1 v.ownBlock):Below B w w1:=
 (hbel.alloc hB o).grown hg (by simp;omega) (fun j hj=>(hown.lt j hj).1)
theorem gQ {B:Nat} {a w:jN9} (h:Below B a w) (q:Nat):Below B a (w.drewN q):=⟨h.os,h.tape,h.output,h.size,h.block⟩
theorem q01 {w wr w1:jN9} (h:Below w.heap.size w wr) (h1:Below wr.heap.size wr w1):Below w.heap.size w w1:=h.trans (h1.mono h.size)
theorem JA (w:jN9) (cs:List jNk) (T:TypeId):∀ j u,cs[j]?=some u->(w.alloc (.cells cs.toArray T)).cell? ((⟨w.heap.size,0,none⟩:Addr).add j)=some u:=by
 intro j u h;have e:((⟨w.heap.size,0,none⟩:Addr).add j)=⟨w.heap.size,j,none⟩:=by unfold Addr.add;split<;>simp_all
 rw [e];have hb:(w.alloc (.cells cs.toArray T)).heap[w.heap.size]?=some (.cells cs.toArray T):=by show (w.heap.push _)[w.heap.size]?=_;simp
 simp only [World.cell?,hb];simpa using h
theorem Gi (w:jN9) (v:jNk) (T:TypeId):∀ j u,[v][j]?=some u->(w.alloc (.cells #[v] T)).cell? ((⟨w.heap.size,0,none⟩:Addr).add j)=some u:=JA w [v] T
theorem Jf {w:jN9} {B B':Nat} {e:TypeId} {k:Nat} {v:jNk} {n:Nat} {xs:List jNk} (h:w.ownsRow B e k v n xs) (hb:B'<=B):w.ownsRow B' e k v n xs:=by
 obtain ⟨h1,h2⟩:=h;refine ⟨h1,?_⟩;rcases h2 with h2 | ⟨g,cap,cur,r1,r2,r3⟩
 ·exact .inl h2
 ·exact .inr ⟨g,cap,cur,r1,Nat.le_trans hb r2,r3⟩
theorem oJ {w:jN9} {B:Nat} {e:TypeId} {k:Nat} {v:jNk} {n:Nat} {xs:List jNk} (h:w.ownsRow B e k v n xs) (hn:0<n):∃ g cap,v=.slice (some ⟨g,0,none⟩) n cap/\n<=cap:=by
 rcases h.2 with ⟨_,h2⟩ | ⟨g,cap,cur,r1,r2,r3,r4,_⟩
 ·omega
 ·exact ⟨g,cap,r1,r4⟩
theorem Jl {a b c:jN9} {row:Option Nat} (h:a.grownBy b row) (k:b.grownBy c row):a.grownBy c row:=
 ⟨k.os.trans h.os,k.tape.trans h.tape,k.output.trans h.output,Nat.le_trans h.size k.size,fun i hi hr=>(k.block i (Nat.lt_of_lt_of_le hi h.size) hr).trans (h.block i hi hr)⟩
theorem NA {a b:jN9} {row:Option Nat} (h:a.grownBy b row):a.grownBy b.drew row:=⟨h.os,h.tape,h.output,h.size,h.block⟩
theorem nX {w:jN9} {b o:Nat} {v:jNk} (h:w.cell? ⟨b,o,none⟩=some v):b<w.heap.size:=by
 refine Nat.lt_of_not_le fun hle=>?_
 have:w.heap[b]?=none:=by rw [Array.getElem?_eq_none_iff];exact hle
 simp [World.cell?,this] at h
theorem past {w:jN9} {b off:Nat} {v:jNk} (h:w.cell? ⟨b,off,none⟩=some v) (o:Obj):(w.alloc o).cell? ⟨b,off,none⟩=some v:=
 (World.cell?_of_block (w:=w) (a:=⟨b,off,none⟩) (Below.heap_alloc w o b (nX h))).trans h
def Dt (w:jN9) (k:Nat) (v:jNk) (n:Nat) (xs:List jNk):Prop:=
 xs.length=n*k/\∃ a cap,v=.slice a n cap/\n<=cap/\cap<=maxLen/\(n=0\/∃ b off,a=some ⟨b,off,none⟩/\∀ j u,xs[j]?=some u->w.cell? ⟨b,off+j,none⟩=some u)
theorem Dt.mE {w:jN9} {B:Nat} {e:TypeId} {k:Nat} {v:jNk} {n:Nat} {xs:List jNk} (h:w.ownsRow B e k v n xs):Dt w k v n xs:=by
 obtain ⟨h1,h2⟩:=h;refine ⟨h1,?_⟩;rcases h2 with ⟨rfl,rfl⟩ | ⟨g,cap,cur,rfl,hg,hb,hn,hm,hcs,hx⟩
 ·exact ⟨none,0,rfl,jK8 _,jL3 _,.inl rfl⟩
 ·refine ⟨_,cap,rfl,hn,hm,.inr ⟨g,0,rfl,fun j u hu=>?_⟩⟩;have hown:w.ownsRow B e k (.slice (some ⟨g,0,none⟩) n cap) n xs:=⟨h1,.inr ⟨g,cap,cur,rfl,hg,hb,hn,hm,hcs,hx⟩⟩;have:=hown.cells rfl j u hu;rw [Nat.zero_add];rw [<- this];congr 1;unfold Addr.add;split<;>simp_all
open Go.RowKit
inductive D where
 | int (k:IntKind) (n:Int)
 | bool (b:Bool)
 | str (s:ByteArray)
 | st (fs:List D)
 | sl (k:Nat) (l:List D)
mutual
def Rd (ok:Nat->Prop) (w:jN9):D->List jNk->Prop
 | .int k n,cs=>cs=[.int k n]
 | .bool b,cs=>cs=[.bool b]
 | .str s,cs=>cs=[.string s]
 | .st fs,cs=>∃ rows,aO ok w fs rows/\cs=rows.flatten
 | .sl k l,cs=>∃ a cap rows,cs=[.slice a l.length cap]/\l.length<=cap/\cap<=maxLen/\aO ok w l rows/\(∀ r∈rows,r.length=k) /\
   (l.length=0\/∃ b off,a=some ⟨b,off,none⟩/\ok b/\b<w.heap.size/\∀ j u,rows.flatten[j]?=some u->w.cell? ⟨b,off+j,none⟩=some u)
def aO (ok:Nat->Prop) (w:jN9):List D->List (List jNk)->Prop
 | [],rows=>rows=[]
 | d::ds,rows=>∃ r rs,rows=r::rs/\Rd ok w d r/\aO ok w ds rs
end
theorem lI {w w':jN9} {b:Nat} (h:w'.heap[b]?=w.heap[b]?) (o:Nat):w'.cell? ⟨b,o,none⟩=w.cell? ⟨b,o,none⟩:=World.cell?_of_block (a:=⟨b,o,none⟩) h
theorem OE {w w':jN9} {b:Nat} (h:w'.heap[b]?=w.heap[b]?) (hb:b<w.heap.size):b<w'.heap.size:=by rw [Array.getElem?_eq_getElem hb] at h;exact (Array.getElem?_eq_some_iff.1 h).1
theorem q0n {w w':jN9} {row:Option Nat} {b o:Nat} {v:jNk} (hg:w.grownBy w' row) (hc:w.cell? ⟨b,o,none⟩=some v) (hne:row≠some b):w'.cell? ⟨b,o,none⟩=some v:=by rw [lI (hg.block b (nX hc) (fun e=>hne e.symm))];exact hc
theorem jj8{P:Prop}(h:P:=by
 have e:((⟨w.heap.size,0,none⟩:Addr).add j)=⟨w.heap.size,j,none⟩:=by unfold Addr.add;split<;>simp_all
 rwa [e] at this):P:=h
theorem IV (w:jN9) (cs:List jNk) (T:TypeId) (j:Nat) (u:jNk) (h:cs[j]?=some u):(w.alloc (.cells cs.toArray T)).cell? ⟨w.heap.size,j,none⟩=some u:=by have:=JA w cs T j u h;exact jj8
theorem own_ne {w:jN9} {B:Nat} {e:TypeId} {k:Nat} {v:jNk} {n:Nat} {xs:List jNk} {b:Nat} (h:w.ownsRow B e k v n xs) (hb:w.heap.size<=b):v.ownBlock≠some b:=fun e'=>by
 have:=(h.lt b e').2;omega
def xL (ok ok':Nat->Prop) (w w':jN9):Prop:=∀ b,ok b->b<w.heap.size->ok' b/\w'.heap[b]?=w.heap[b]?
mutual
theorem Rd.keep {ok ok':Nat->Prop} {w w':jN9} (hs:xL ok ok' w w'):∀ (d:D) (cs:List jNk),Rd ok w d cs->Rd ok' w' d cs
 | .int _ _,_,h=>by unfold Rd at h ⊢;exact h
 | .bool _,_,h=>by unfold Rd at h ⊢;exact h
 | .str _,_,h=>by unfold Rd at h ⊢;exact h
 | .st fs,_,h=>by
  unfold Rd at h ⊢;obtain ⟨rows,hr,hc⟩:=h;exact ⟨rows,aO.keep hs fs rows hr,hc⟩
 | .sl k l,_,h=>by
  unfold Rd at h ⊢;obtain ⟨a,cap,rows,h1,h2,h3,h4,h5,h6⟩:=h;have h4':=aO.keep hs l rows h4;refine ⟨a,cap,rows,h1,h2,h3,h4',h5,?_⟩;rcases h6 with h6 | ⟨b,off,h7,h8,hb,h9⟩
  ·exact .inl h6
  ·obtain ⟨k1,k2⟩:=hs b h8 hb;refine .inr ⟨b,off,h7,k1,OE k2 hb,fun j u hu=>by rw [lI k2];exact h9 j u hu⟩
theorem aO.keep {ok ok':Nat->Prop} {w w':jN9} (hs:xL ok ok' w w'):∀ (l:List D) (rows:List (List jNk)),aO ok w l rows->aO ok' w' l rows
 | [],_,h=>by unfold aO at h ⊢;exact h
 | d::ds,_,h=>by
  unfold aO at h ⊢;obtain ⟨r,rs,h1,h2,h3⟩:=h;exact ⟨r,rs,h1,Rd.keep hs d r h2,aO.keep hs ds rs h3⟩
end
theorem aO.len {ok:Nat->Prop} {w:jN9}:∀ {l:List D} {rows:List (List jNk)},aO ok w l rows->rows.length=l.length
 | [],_,h=>by unfold aO at h;simp [h]
 | d::ds,_,h=>by
  unfold aO at h;obtain ⟨r,rs,rfl,_,h3⟩:=h;simp [aO.len h3]
theorem aO.get {ok:Nat->Prop} {w:jN9}:∀ {l:List D} {rows:List (List jNk)},aO ok w l rows->∀ (i:Nat) (d:D),l[i]?=some d->∃ r,rows[i]?=some r/\Rd ok w d r
 | [],_,h,i,d,hd=>by simp at hd
 | x::xs,_,h,i,d,hd=>by
  unfold aO at h;obtain ⟨r,rs,rfl,h2,h3⟩:=h;cases i with
  | zero=>simp at hd;subst hd;exact ⟨r,rfl,h2⟩
  | succ i=>simp at hd;obtain ⟨r',h4,h5⟩:=aO.get h3 i d hd;exact ⟨r',by simpa using h4,h5⟩
theorem aO.app {ok:Nat->Prop} {w:jN9}:∀ {l m:List D} {rows rows':List (List jNk)},aO ok w l rows->aO ok w m rows'->aO ok w (l++m) (rows++rows')
 | [],_,_,_,h,h'=>by unfold aO at h;subst h;exact h'
 | d::ds,_,_,_,h,h'=>by
  unfold aO at h;obtain ⟨r,rs,rfl,h2,h3⟩:=h;show aO ok w (d::(ds++_)) _;unfold aO;exact ⟨r,rs++_,rfl,h2,aO.app h3 h'⟩
theorem aO.one {ok:Nat->Prop} {w:jN9} {d:D} {r:List jNk} (h:Rd ok w d r):aO ok w [d] [r]:=by unfold aO;exact ⟨r,[],rfl,h,by unfold aO;rfl⟩
theorem aO.none {ok:Nat->Prop} {w:jN9}:aO ok w [] []:=by unfold aO;rfl
theorem aO.cons {ok:Nat->Prop} {w:jN9} {d:D} {ds:List D} {r:List jNk} {rs:List (List jNk)} (h:Rd ok w d r) (hs:aO ok w ds rs):aO ok w (d::ds) (r::rs):=by unfold aO;exact ⟨r,rs,rfl,h,hs⟩
theorem jQ (k:Nat):∀ (rows:List (List jNk)),(∀ r∈rows,r.length=k)->rows.flatten.length=rows.length*k
 | [],_=>by simp
 | r::rs,h=>by
  rw [List.flatten_cons,List.length_append,jQ k rs (fun x hx=>h x (by simp [hx])),h r (by simp),List.length_cons,Nat.add_mul];omega
theorem Y4 (k:Nat):∀ (rows:List (List jNk)),(∀ r∈rows,r.length=k)->∀ (i j:Nat) (r:List jNk) (u:jNk),rows[i]?=some r->r[j]?=some u->rows.flatten[i*k+j]?=some u
 | [],_,i,j,r,u,h1,_=>by simp at h1
 | x::xs,h,i,j,r,u,h1,h2=>by
  have hx:=h x (by simp);rw [List.flatten_cons];cases i with
  | zero=>
   simp at h1;subst h1;have hj:j<x.length:=(List.getElem?_eq_some_iff.1 h2).1;rw [List.getElem?_append_left (by omega)];simpa using h2
  | succ i=>
   rw [List.getElem?_append_right (by rw [hx,Nat.add_mul];omega)];have e:(i+1)*k+j-x.length=i*k+j:=by rw [hx,Nat.add_mul];omega
   rw [e];exact Y4 k xs (fun y hy=>h y (by simp [hy])) i j r u (by simpa using h1) h2
structure nV (ok:Nat->Prop) (w:jN9) (k:Nat) (l:List D) (a:Option Addr) (cap:Nat):Prop where
 le:l.length<=cap
 max:cap<=maxLen
 at_:0<l.length->∃ b off,a=some ⟨b,off,none⟩/\ok b/\b<w.heap.size/\∀ i d,l[i]?=some d->∃ r,Rd ok w d r/\r.length=k/\∀ j u,r[j]?=some u->w.cell? ⟨b,off+(i*k+j),none⟩=some u
theorem Rd.aB {ok:Nat->Prop} {w:jN9} {k:Nat} {l:List D} {cs:List jNk} (h:Rd ok w (.sl k l) cs):∃ a cap,cs=[.slice a l.length cap]/\nV ok w k l a cap:=by
 unfold Rd at h;obtain ⟨a,cap,rows,h1,h2,h3,h4,h5,h6⟩:=h;refine ⟨a,cap,h1,h2,h3,fun hp=>?_⟩;rcases h6 with h6 | ⟨b,off,h7,h8,hb,h9⟩
 ·omega
 ·refine ⟨b,off,h7,h8,hb,fun i d hd=>?_⟩;obtain ⟨r,hr,hrd⟩:=h4.get i d hd;exact ⟨r,hrd,h5 r (List.mem_of_getElem? hr),fun j u hu=>h9 _ u (Y4 k rows h5 i j r u hr hu)⟩
theorem Rd.jG {ok:Nat->Prop} {w:jN9} {fs:List D} {cs:List jNk} (h:Rd ok w (.st fs) cs):∃ rows,aO ok w fs rows/\cs=rows.flatten:=by unfold Rd at h;exact h
theorem Rd.xM {ok:Nat->Prop} {w:jN9} {fs:List D} {rows:List (List jNk)} (h:aO ok w fs rows):Rd ok w (.st fs) rows.flatten:=by unfold Rd;exact ⟨rows,h,rfl⟩
theorem aO.aF {ok:Nat->Prop} {w:jN9} {d:D} {ds:List D} {rows:List (List jNk)} (h:aO ok w (d::ds) rows):∃ r rs,rows=r::rs/\Rd ok w d r/\aO ok w ds rs:=by unfold aO at h;exact h
theorem aO.dw {ok:Nat->Prop} {w:jN9} {rows:List (List jNk)} (h:aO ok w [] rows):rows=[]:=by unfold aO at h;exact h
theorem Rd.uI {ok:Nat->Prop} {w:jN9} {k:IntKind} {n:Int} {cs:List jNk} (h:Rd ok w (.int k n) cs):cs=[.int k n]:=by unfold Rd at h;exact h
theorem Rd.vW {ok:Nat->Prop} {w:jN9} {b:Bool} {cs:List jNk} (h:Rd ok w (.bool b) cs):cs=[.bool b]:=by unfold Rd at h;exact h
theorem Rd.bM {ok:Nat->Prop} {w:jN9} {s:ByteArray} {cs:List jNk} (h:Rd ok w (.str s) cs):cs=[.string s]:=by unfold Rd at h;exact h
theorem Rd.ND (ok:Nat->Prop) (w:jN9) (k:IntKind) (n:Int):Rd ok w (.int k n) [.int k n]:=by unfold Rd;rfl
theorem Rd.Pp (ok:Nat->Prop) (w:jN9) (b:Bool):Rd ok w (.bool b) [.bool b]:=by unfold Rd;rfl
theorem Rd.eB (ok:Nat->Prop) (w:jN9) (s:ByteArray):Rd ok w (.str s) [.string s]:=by unfold Rd;rfl
theorem Rd.aI (ok:Nat->Prop) (w:jN9) (k:Nat):Rd ok w (.sl k []) [.slice none 0 0]:=by unfold Rd;exact ⟨none,0,[],rfl,jK8 _,jL3 _,aO.none,by simp,.inl rfl⟩
theorem Rd.jl {ok:Nat->Prop} {w:jN9} {B:Nat} {e:TypeId} {k:Nat} {l:List D} {v:jNk} {rows:List (List jNk)} (ho:w.ownsRow B e k v l.length rows.flatten) (h:aO ok w l rows) (hk:∀ r∈rows,r.length=k) (hok:∀ g,v.ownBlock=some g->ok g):Rd ok w (.sl k l) [v]:=by
 have hlt:=ho.lt;have hcl:∀ g cap,v=.slice (some ⟨g,0,none⟩) l.length cap->∀ j u,rows.flatten[j]?=some u->w.cell? ⟨g,0+j,none⟩=some u:=by rintro g cap rfl j u hu;rw [Nat.zero_add,<- ho.cells rfl j u hu];congr 1;unfold Addr.add;split<;>simp_all
 obtain ⟨h1,h2⟩:=ho;rcases h2 with ⟨rfl,hx⟩ | ⟨g,cap,cur,rfl,hg,hb,hn,hm,hcs,hx⟩
 ·unfold Rd;exact ⟨none,0,rows,by rw [hx],by omega,jL3 _,h,hk,.inl hx⟩
 ·unfold Rd;exact ⟨_,cap,rows,rfl,hn,hm,h,hk,.inr ⟨g,0,rfl,hok g rfl,(hlt g rfl).2,hcl g cap rfl⟩⟩
def jf (l:List ByteArray):D:=.sl 1 (l.map D.str)
theorem aO.strs {ok:Nat->Prop} {w:jN9}:∀ (l:List ByteArray),aO ok w (l.map D.str) (l.map fun s=>[Value.string s])
 | []=>aO.none
 | s::l=>aO.cons (Rd.eB ok w s) (aO.strs l)
theorem pQ:∀ (l:List ByteArray),(l.map fun s=>[Value.string s]).flatten=l.map Value.string
 | []=>rfl
 | s::l=>by simp [List.flatten_cons,pQ l]
theorem aO.pO {ok:Nat->Prop} {w:jN9}:∀ (l:List ByteArray) (rows:List (List jNk)),aO ok w (l.map D.str) rows->rows=l.map fun s=>[Value.string s]
 | [],_,h=>by exact h.dw
 | s::l,_,h=>by
  obtain ⟨r,rs,rfl,h1,h2⟩:=h.aF;rw [h1.bM,aO.pO l rs h2];rfl
theorem Rd.U8 {ok:Nat->Prop} {w:jN9} {B:Nat} {e:TypeId} {l:List ByteArray} {v:jNk} (ho:w.ownsRow B e 1 v l.length (l.map Value.string)) (hok:∀ g,v.ownBlock=some g->ok g):Rd ok w (jf l) [v]:=by refine Rd.jl (rows:=l.map fun s=>[Value.string s]) (B:=B) (e:=e) ?_ (aO.strs l) (by simp) hok;rw [pQ,List.length_map];exact ho
open Go.RowKit
structure Pr where
 key:ByteArray
 val:ByteArray
deriving DecidableEq
structure Ci where
 key:ByteArray
 pre:ByteArray
 suf:ByteArray
 bare:Bool
deriving DecidableEq
structure At where
 id:ByteArray
 cls:List ByteArray
 aD:List Pr
deriving DecidableEq
inductive aj where
 | mk (kind:Int) (text dest title:ByteArray) (at_:At) (args:List ByteArray) (dH:List Ci) (kids:List aj)
inductive ah where
 | mk (kind level:Int) (info text dest title:ByteArray) (at_:At) (line:List aj) (kids:List ah)
def Pr.d (p:Pr):D:=.st [.str p.key,.str p.val]
def Ci.d (c:Ci):D:=.st [.str c.key,.str c.pre,.str c.suf,.bool c.bare]
def At.ds (a:At):List D:=[.str a.id,jf a.cls,.sl 2 (a.aD.map Pr.d)]
mutual
def aj.d:aj->D
 | .mk k t d ti a ar ci ks=>.st [.int .i64 k,.str t,.str d,.str ti,.st a.ds,jf ar,.sl 4 (ci.map Ci.d),.sl 10 (aj.dl ks)]
def aj.dl:List aj->List D
 | []=>[]
 | x::l=>x.d::aj.dl l
end
theorem aj.jW:∀ (l:List aj),aj.dl l=l.map aj.d
 | []=>by unfold aj.dl;rfl
 | x::l=>by rw [aj.dl,aj.jW l];rfl
mutual
def ah.d:ah->D
 | .mk k lv i t d ti a li ks=>.st [.int .i64 k,.int .i64 lv,.str i,.str t,.str d,.str ti,.st a.ds,.sl 10 (li.map aj.d),.sl 11 (ah.dl ks)]
def ah.dl:List ah->List D
 | []=>[]
 | x::l=>x.d::ah.dl l
end
theorem ah.jW:∀ (l:List ah),ah.dl l=l.map ah.d
 | []=>by unfold ah.dl;rfl
 | x::l=>by rw [ah.dl,ah.jW l];rfl
def aZ (l:List aj):D:=.sl 10 (l.map aj.d)
def iC (l:List ah):D:=.sl 11 (l.map ah.d)
def dx (l:List Pr):D:=.sl 2 (l.map Pr.d)
def Mg (l:List Ci):D:=.sl 4 (l.map Ci.d)
variable {ok:Nat->Prop} {w:jN9}
theorem Pr.open_ {p:Pr} {cs:List jNk} (h:Rd ok w p.d cs):cs=[.string p.key,.string p.val]:=by unfold Pr.d at h;obtain ⟨_,g0,rfl⟩:=h.jG;obtain ⟨_,_,rfl,h1,g1⟩:=g0.aF;obtain ⟨_,_,rfl,h2,g2⟩:=g1.aF;obtain rfl:=g2.dw;obtain rfl:=h1.bM;obtain rfl:=h2.bM;rfl
theorem Ci.open_ {p:Ci} {cs:List jNk} (h:Rd ok w p.d cs):cs=[.string p.key,.string p.pre,.string p.suf,.bool p.bare]:=by unfold Ci.d at h;obtain ⟨_,g0,rfl⟩:=h.jG;obtain ⟨_,_,rfl,h1,g1⟩:=g0.aF;obtain ⟨_,_,rfl,h2,g2⟩:=g1.aF;obtain ⟨_,_,rfl,h3,g3⟩:=g2.aF;obtain ⟨_,_,rfl,h4,g4⟩:=g3.aF;obtain rfl:=g4.dw;obtain rfl:=h1.bM;obtain rfl:=h2.bM;obtain rfl:=h3.bM;obtain rfl:=h4.vW;rfl
theorem Pr.fC (ok:Nat->Prop) (w:jN9) (p:Pr):Rd ok w p.d [.string p.key,.string p.val]:=
 Rd.xM (rows:=[[.string p.key],[.string p.val]]) (.cons (Rd.eB _ _ _) (.cons (Rd.eB _ _ _) .none))
theorem Ci.fC (ok:Nat->Prop) (w:jN9) (p:Ci):Rd ok w p.d [.string p.key,.string p.pre,.string p.suf,.bool p.bare]:=
 Rd.xM (rows:=[[.string p.key],[.string p.pre],[.string p.suf],[.bool p.bare]]) (.cons (Rd.eB _ _ _) (.cons (Rd.eB _ _ _) (.cons (Rd.eB _ _ _) (.cons (Rd.Pp _ _ _) .none))))
theorem Rd.jv {k:Nat} {l:List D} {cs:List jNk} (h:Rd ok w (.sl k l) cs):∃ v,cs=[v]/\Rd ok w (.sl k l) [v]:=by obtain ⟨a,cap,rfl,_⟩:=h.aB;exact ⟨_,rfl,h⟩
structure AtR (ok:Nat->Prop) (w:jN9) (a:At) (vc vp:jNk):Prop where
 cls:Rd ok w (jf a.cls) [vc]
 aD:Rd ok w (dx a.aD) [vp]
theorem At.open_ {a:At} {cs:List jNk} (h:Rd ok w (.st a.ds) cs):∃ vc vp,cs=[.string a.id,vc,vp]/\AtR ok w a vc vp:=by unfold At.ds at h;obtain ⟨_,g0,rfl⟩:=h.jG;obtain ⟨_,_,rfl,h1,g1⟩:=g0.aF;obtain ⟨_,_,rfl,h2,g2⟩:=g1.aF;obtain ⟨_,_,rfl,h3,g3⟩:=g2.aF;obtain ⟨vc,rfl,h2⟩:=Rd.jv h2;obtain ⟨vp,rfl,h3⟩:=Rd.jv h3;obtain rfl:=g3.dw;obtain rfl:=h1.bM;exact ⟨vc,vp,rfl,h2,h3⟩
theorem At.fC {a:At} {vc vp:jNk} (h:AtR ok w a vc vp):Rd ok w (.st a.ds) [.string a.id,vc,vp]:=
 Rd.xM (rows:=[[.string a.id],[vc],[vp]]) (.cons (Rd.eB _ _ _) (.cons h.cls (.cons h.aD .none)))
structure vD (ok:Nat->Prop) (w:jN9) (at_:At) (args:List ByteArray) (dH:List Ci) (kids:List aj) (vc vp va vi vk:jNk):Prop where
 at_:AtR ok w at_ vc vp
 args:Rd ok w (jf args) [va]
 dH:Rd ok w (Mg dH) [vi]
 kids:Rd ok w (aZ kids) [vk]
theorem aj.open_ {k:Int} {t d ti:ByteArray} {a:At} {ar:List ByteArray} {ci:List Ci} {ks:List aj} {cs:List jNk} (h:Rd ok w (aj.mk k t d ti a ar ci ks).d cs) : ∃ vc vp va vi vk,cs=[.int .i64 k,.string t,.string d,.string ti,.string a.id,vc,vp,va,vi,vk]/\vD ok w a ar ci ks vc vp va vi vk:=by unfold aj.d at h;obtain ⟨_,g0,rfl⟩:=h.jG;obtain ⟨_,_,rfl,h1,g1⟩:=g0.aF;obtain ⟨_,_,rfl,h2,g2⟩:=g1.aF;obtain ⟨_,_,rfl,h3,g3⟩:=g2.aF;obtain ⟨_,_,rfl,h4,g4⟩:=g3.aF;obtain ⟨_,_,rfl,h5,g5⟩:=g4.aF;obtain ⟨_,_,rfl,h6,g6⟩:=g5.aF;obtain ⟨_,_,rfl,h7,g7⟩:=g6.aF;obtain ⟨_,_,rfl,h8,g8⟩:=g7.aF;obtain ⟨vc,vp,rfl,ha⟩:=At.open_ h5;obtain ⟨va,rfl,h6⟩:=Rd.jv h6;obtain ⟨vi,rfl,h7⟩:=Rd.jv h7;obtain ⟨vk,rfl,h8⟩:=Rd.jv h8;rw [aj.jW] at h8;obtain rfl:=g8.dw;obtain rfl:=h1.uI;obtain rfl:=h2.bM;obtain rfl:=h3.bM;obtain rfl:=h4.bM;exact ⟨vc,vp,va,vi,vk,rfl,ha,h6,h7,h8⟩
theorem aj.fC (k:Int) (t d ti:ByteArray) {a:At} {ar:List ByteArray} {ci:List Ci} {ks:List aj} {vc vp va vi vk:jNk} (h:vD ok w a ar ci ks vc vp va vi vk) : Rd ok w (aj.mk k t d ti a ar ci ks).d [.int .i64 k,.string t,.string d,.string ti,.string a.id,vc,vp,va,vi,vk]:=by
 unfold aj.d;rw [aj.jW];exact Rd.xM (rows:=[[.int .i64 k],[.string t],[.string d],[.string ti],[.string a.id,vc,vp],[va],[vi],[vk]])
  (.cons (Rd.ND _ _ _ _) (.cons (Rd.eB _ _ _) (.cons (Rd.eB _ _ _) (.cons (Rd.eB _ _ _) (.cons (At.fC h.at_) (.cons h.args (.cons h.dH (.cons h.kids .none))))))))
structure kG (ok:Nat->Prop) (w:jN9) (at_:At) (line:List aj) (kids:List ah) (vc vp vl vk:jNk):Prop where
 at_:AtR ok w at_ vc vp
 line:Rd ok w (aZ line) [vl]
 kids:Rd ok w (iC kids) [vk]
theorem ah.open_ {k lv:Int} {i t d ti:ByteArray} {a:At} {li:List aj} {ks:List ah} {cs:List jNk} (h:Rd ok w (ah.mk k lv i t d ti a li ks).d cs) : ∃ vc vp vl vk,cs=[.int .i64 k,.int .i64 lv,.string i,.string t,.string d,.string ti,.string a.id,vc,vp,vl,vk]/\kG ok w a li ks vc vp vl vk:=by unfold ah.d at h;obtain ⟨_,g0,rfl⟩:=h.jG;obtain ⟨_,_,rfl,h1,g1⟩:=g0.aF;obtain ⟨_,_,rfl,h2,g2⟩:=g1.aF;obtain ⟨_,_,rfl,h3,g3⟩:=g2.aF;obtain ⟨_,_,rfl,h4,g4⟩:=g3.aF;obtain ⟨_,_,rfl,h5,g5⟩:=g4.aF;obtain ⟨_,_,rfl,h6,g6⟩:=g5.aF;obtain ⟨_,_,rfl,h7,g7⟩:=g6.aF;obtain ⟨_,_,rfl,h8,g8⟩:=g7.aF;obtain ⟨_,_,rfl,h9,g9⟩:=g8.aF;obtain ⟨vc,vp,rfl,ha⟩:=At.open_ h7;obtain ⟨vl,rfl,h8⟩:=Rd.jv h8;obtain ⟨vk,rfl,h9⟩:=Rd.jv h9;rw [ah.jW] at h9;obtain rfl:=g9.dw;obtain rfl:=h1.uI;obtain rfl:=h2.uI;obtain rfl:=h3.bM;obtain rfl:=h4.bM;obtain rfl:=h5.bM;obtain rfl:=h6.bM;exact ⟨vc,vp,vl,vk,rfl,ha,h8,h9⟩
theorem ah.fC (k lv:Int) (i t d ti:ByteArray) {a:At} {li:List aj} {ks:List ah} {vc vp vl vk:jNk} (h:kG ok w a li ks vc vp vl vk) : Rd ok w (ah.mk k lv i t d ti a li ks).d [.int .i64 k,.int .i64 lv,.string i,.string t,.string d,.string ti,.string a.id,vc,vp,vl,vk]:=by
 unfold ah.d;rw [ah.jW];exact Rd.xM (rows:=[[.int .i64 k],[.int .i64 lv],[.string i],[.string t],[.string d],[.string ti],[.string a.id,vc,vp],[vl],[vk]])
  (.cons (Rd.ND _ _ _ _) (.cons (Rd.ND _ _ _ _) (.cons (Rd.eB _ _ _) (.cons (Rd.eB _ _ _) (.cons (Rd.eB _ _ _) (.cons (Rd.eB _ _ _) (.cons (At.fC h.at_) (.cons h.line (.cons h.kids .none)))))))))
open Go.RowKit
mutual
def aj.sz:aj->Nat
 | .mk _ _ _ _ _ _ _ ks=>1+aj.aU ks
def aj.aU:List aj->Nat
 | []=>0
 | x::l=>x.sz+aj.aU l
end
mutual
def ah.sz:ah->Nat
 | .mk _ _ _ _ _ _ _ _ ks=>1+ah.aU ks
def ah.aU:List ah->Nat
 | []=>0
 | x::l=>x.sz+ah.aU l
end
theorem aj.bK:∀ (l:List aj) (k:Nat) (x:aj),l[k]?=some x->x.sz<=aj.aU l
 | [],_,_,h=>by simp at h
 | y::l,0,x,h=>by simp at h;subst h;rw [aj.aU];omega
 | y::l,k+1,x,h=>by
  have:=aj.bK l k x (by simpa using h);rw [aj.aU];omega
theorem ah.bK:∀ (l:List ah) (k:Nat) (x:ah),l[k]?=some x->x.sz<=ah.aU l
 | [],_,_,h=>by simp at h
 | y::l,0,x,h=>by simp at h;subst h;rw [ah.aU];omega
 | y::l,k+1,x,h=>by
  have:=ah.bK l k x (by simpa using h);rw [ah.aU];omega
mutual
def aj.plain:aj->List UInt8
 | .mk k t d _ _ _ _ ks=>
  if k=1\/k=4\/k=5 then t.data.toList else if k=2\/k=3 then [32]
  else if k=6\/k=7\/k=8\/k=9\/k=10\/k=11 then aj.aR ks else if k=16 then d.data.toList else []
def aj.aR:List aj->List UInt8
 | []=>[]
 | x::l=>x.plain++aj.aR l
end
theorem aj.BZ (l m:List aj):aj.aR (l++m)=aj.aR l++aj.aR m:=by
 induction l with
 | nil=>rw [aj.aR];rfl
 | cons x l ih=>rw [List.cons_append,aj.aR,aj.aR,ih,List.append_assoc]
theorem aj.xu (l:List aj) (k:Nat) (x:aj) (h:l[k]?=some x):aj.aR (l.take (k+1))=aj.aR (l.take k)++x.plain:=by rw [List.take_add_one,h,aj.BZ];simp [aj.aR]
theorem aj.RZ (l:List aj) (k:Nat):(aj.aR (l.take k)).length<=(aj.aR l).length:=by have h:l=l.take k++l.drop k:=(List.take_append_drop k l).symm;have:=congrArg (fun l=>(aj.aR l).length) h;rw [aj.BZ] at this;simp at this;omega
theorem aj.TY (l:List aj) (k:Nat) (x:aj) (h:l[k]?=some x):(aj.aR (l.take k)).length+x.plain.length<=(aj.aR l).length:=by have h1:=aj.RZ l (k+1);rw [aj.xu l k x h,List.length_append] at h1;exact h1
variable {ok:Nat->Prop} {w:jN9}
structure gK (w:jN9) (b o:Nat) (k:Int) (t d ti:ByteArray) (id:ByteArray) (vc vp va vi vk:jNk):Prop where
 c0:w.cell? ⟨b,o,none⟩=some (.int .i64 k)
 c1:w.cell? ⟨b,o+1,none⟩=some (.string t)
 c2:w.cell? ⟨b,o+2,none⟩=some (.string d)
 c3:w.cell? ⟨b,o+3,none⟩=some (.string ti)
 c4:w.cell? ⟨b,o+4,none⟩=some (.string id)
 c5:w.cell? ⟨b,o+5,none⟩=some vc
 c6:w.cell? ⟨b,o+6,none⟩=some vp
 c7:w.cell? ⟨b,o+7,none⟩=some va
 c8:w.cell? ⟨b,o+8,none⟩=some vi
 c9:w.cell? ⟨b,o+9,none⟩=some vk
theorem gK.of {w:jN9} {b o:Nat} {cs:List jNk} {k:Int} {t d ti id:ByteArray} {vc vp va vi vk:jNk} (hcs:cs=[.int .i64 k,.string t,.string d,.string ti,.string id,vc,vp,va,vi,vk]) (h:∀ j u,cs[j]?=some u->w.cell? ⟨b,o+j,none⟩=some u):gK w b o k t d ti id vc vp va vi vk:=by subst hcs;exact ⟨h 0 _ rfl,h 1 _ rfl,h 2 _ rfl,h 3 _ rfl,h 4 _ rfl,h 5 _ rfl,h 6 _ rfl,h 7 _ rfl,h 8 _ rfl,h 9 _ rfl⟩
theorem JY{P Q:Prop}(q:Q)(h:Nonempty Q->P:=by
 intro qQ;have hlt:k<l.length:=(List.getElem?_eq_some_iff.1 hk).1;obtain ⟨b,off,ha,hok,hb,hc⟩:=h.at_ (by simpa using Nat.lt_of_le_of_lt (Nat.zero_le _) hlt)
 obtain ⟨r,hr,hl,hcell⟩:=hc k _ (by rw [List.getElem?_map,hk];rfl);revert hlt b off ha hok hb hc r hr hl hcell;exact qQ.elim fun x=>x):P:=h ⟨q⟩
theorem fE {l:List aj} {a:Option Addr} {cap:Nat} (h:nV ok w 10 (l.map aj.d) a cap) {k:Nat} {kd:Int} {t d ti:ByteArray} {at_:At} {ar:List ByteArray} {ci:List Ci} {ks:List aj} (hk:l[k]?=some (.mk kd t d ti at_ ar ci ks)) : ∃ b off vc vp va vi vk,a=some ⟨b,off,none⟩/\ok b/\b<w.heap.size/\gK w b (off+k*10) kd t d ti at_.id vc vp va vi vk/\vD ok w at_ ar ci ks vc vp va vi vk:=by refine JY ?_;intro hlt b off ha hok hb hc r hr hl hcell;obtain ⟨vc,vp,va,vi,vk,hcs,hR⟩:=aj.open_ hr;exact ⟨b,off,vc,vp,va,vi,vk,ha,hok,hb,gK.of hcs (fun j u hu=>by rw [Nat.add_assoc];exact hcell j u hu),hR⟩
structure dA (w:World) (b o:Nat) (k lv:Int) (i t d ti:ByteArray) (id:ByteArray) (vc vp vl vk:Value):Prop where
 c0:w.cell? ⟨b,o,none⟩=some (.int .i64 k)
 c1:w.cell? ⟨b,o+1,none⟩=some (.int .i64 lv)
 c2:w.cell? ⟨b,o+2,none⟩=some (.string i)
 c3:w.cell? ⟨b,o+3,none⟩=some (.string t)
 c4:w.cell? ⟨b,o+4,none⟩=some (.string d)
 c5:w.cell? ⟨b,o+5,none⟩=some (.string ti)
 c6:w.cell? ⟨b,o+6,none⟩=some (.string id)
 c7:w.cell? ⟨b,o+7,none⟩=some vc
 c8:w.cell? ⟨b,o+8,none⟩=some vp
 c9:w.cell? ⟨b,o+9,none⟩=some vl
 c10:w.cell? ⟨b,o+10,none⟩=some vk
theorem dA.of {w:World} {b o:Nat} {cs:List Value} {k lv:Int} {i t d ti id:ByteArray} {vc vp vl vk:Value} (hcs:cs=[.int .i64 k,.int .i64 lv,.string i,.string t,.string d,.string ti,.string id,vc,vp,vl,vk]) (h:∀ j u,cs[j]?=some u->w.cell? ⟨b,o+j,none⟩=some u):dA w b o k lv i t d ti id vc vp vl vk:=by subst hcs;exact ⟨h 0 _ rfl,h 1 _ rfl,h 2 _ rfl,h 3 _ rfl,h 4 _ rfl,h 5 _ rfl,h 6 _ rfl,h 7 _ rfl,h 8 _ rfl,h 9 _ rfl,h 10 _ rfl⟩
theorem Mr {l:List ah} {a:Option Addr} {cap:Nat} (h:nV ok w 11 (l.map ah.d) a cap) {k:Nat} {kd lv:Int} {i t d ti:ByteArray} {at_:At} {li:List aj} {ks:List ah} (hk:l[k]?=some (.mk kd lv i t d ti at_ li ks)) : ∃ b off vc vp vl vk,a=some ⟨b,off,none⟩/\ok b/\b<w.heap.size/\dA w b (off+k*11) kd lv i t d ti at_.id vc vp vl vk/\kG ok w at_ li ks vc vp vl vk:=by refine JY ?_;intro hlt b off ha hok hb hc r hr hl hcell;obtain ⟨vc,vp,vl,vk,hcs,hR⟩:=ah.open_ hr;exact ⟨b,off,vc,vp,vl,vk,ha,hok,hb,dA.of hcs (fun j u hu=>by rw [Nat.add_assoc];exact hcell j u hu),hR⟩
open Go.RowKit
set_option linter.unusedVariables false
set_option linter.unusedSimpArgs false
theorem Ir (k:Int):(k=1\/k=4\/k=5)\/(k=2\/k=3)\/(k=6\/k=7\/k=8\/k=9\/k=10\/k=11)\/k=16\/(k≠1/\k≠4/\k≠5/\k≠2/\k≠3/\k≠6/\k≠7/\k≠8/\k≠9/\k≠10/\k≠11/\k≠16):=by omega
open Go.RowKit
theorem vB {a b:Bool} (h:a=b):Ending.returned (.bool a)=.returned (.bool b):=by rw [h]
theorem Mj {a b:Int} (h:a=b):Ending.returned (.int .i64 a)=.returned (.int .i64 b):=by rw [h]
theorem jj9{P:Prop}(h:P:=by
 go_wp2;all_goals
  go_ret;refine ⟨vB ?_,rfl⟩;unfold spC
  (try simp only [beq_iff_eq,beq_eq_false_iff_ne,ne_eq] at *)
  rw [Bool.eq_iff_iff];simp;omega):P:=h
theorem Im (c:Nat) (w:jN9) (hc:c<=1114111) : Calls prog 234 #[.int .i64 (c:Int)] w fun e w'=>e=.returned (.bool (spC c))/\w=w':=by go_enter func234,ntmps234;exact jj9
theorem Iw (c:Nat) (w:jN9) (hc:c<=1114111) : Calls prog 206 #[.int .i64 (c:Int)] w fun e w'=>e=.returned (.bool (Ga c))/\w=w':=by
 go_enter func206,ntmps206;go_wp2;all_goals
  go_ret;refine ⟨vB ?_,rfl⟩;unfold Ga j6;rw [jKk];simp
  (try omega)
theorem F9 (c:Nat) (w:jN9) (hc:c<=1114111) : Calls prog 205 #[.int .i64 (c:Int)] w fun e w'=>e=.returned (.bool (iV c))/\w=w':=by
 go_enter func205,ntmps205;go_wp2;all_goals
  go_ret;refine ⟨vB ?_,rfl⟩;unfold iV j6
  (try simp only [beq_iff_eq,beq_eq_false_iff_ne,ne_eq] at *)
  simp;omega
theorem jjj{P:Prop}(h:P:=by
 go_wp2;all_goals
  go_ret;refine ⟨Mj ?_,rfl⟩;unfold gq
  (try simp only [bne_iff_ne,bne_eq_false_iff_eq,ne_eq] at *)
  (repeat' split)<;>omega):P:=h
theorem Io (c:Nat) (w:jN9) (hc:c<=1114111) : Calls prog 237 #[.int .i64 (c:Int)] w fun e w'=>e=.returned (.int .i64 (gq c:Nat))/\w=w':=by go_enter func237,ntmps237;exact jjj
open Go.RowKit
theorem Qe {k:IntKind} {a b:Int} (h:a=b):Ending.returned (.int k a)=.returned (.int k b):=by rw [h]
theorem Xk{P:Prop}(h:P:=by
 go_enter func188,ntmps188;go_wp2;go_ret;exact ⟨Qe (by rw [HV.out,if_neg (by omega)]),rfl⟩):P:=h
theorem Xl (s:ByteArray) (i low high:Nat) (w:jN9) (hs:s.size<=9223372036854775807) (hl:low<256) (hh:high<256) (hi:i<9223372036854775807) : Calls prog 188 #[.string s,.int .i64 i,.int .i64 low,.int .i64 high] w fun e w'=>e=.returned (.int .i64 (q24 s i low high))/\w=w':=by
 obtain ⟨V,hV⟩:∃ V,V=q24 s i low high:=⟨_,rfl⟩;rw [<- hV];unfold q24 at hV;have HV:=hid hV;clear hV;have hb:=gu s i;by_cases h1:i<s.size
 ·have hw:wrap64 (s[i].toNat:Int)=(bt s i:Int):=by rw [jE s i h1];exact IntWalk.wrap64_in _ ⟨by omega,by omega⟩
  by_cases h2:low<=bt s i
  ·by_cases h3:bt s i<=high
   ·go_enter func188,ntmps188;go_wp2;go_ret;exact ⟨Qe (by rw [HV.out,if_pos ⟨h1,h2,h3⟩]),rfl⟩
   ·exact Xk
  ·exact Xk
 ·exact Xk
theorem Ca {a b c d:Int} (h1:a=c) (h2:b=d):Ending.returned (.agg #[.int .i64 a,.int .i64 b])=.returned (.agg #[.int .i64 c,.int .i64 d]):=by rw [h1,h2]
def ju5 (s:ByteArray) (i low high v:Int):Prop:=
 ∀ w:jN9,Calls prog 188 #[.string s,.int .i64 i,.int .i64 low,.int .i64 high] w fun e w'=>e=.returned (.int .i64 v)/\w=w'
theorem zh (s:ByteArray) (i low high:Nat) (j:Int) (hj:j=(i:Int)) (hs:s.size<=140737488355328) (hl:low<256) (hh:high<256) (hi:i<9223372036854775807):ju5 s j low high (q24 s i low high):=by subst hj;exact fun w=>Xl s i low high w (by omega) hl hh hi
theorem jjk{P Q:Prop}(q:Q)(h:Nonempty Q->P:=by
 intro qQ;have M1:=zh s (i+1) (jD b) (kE b) (↑i+1) (by omega) hs (by unfold jD;split<;>(try split)<;>omega) (by unfold kE;split<;>(try split)<;>omega) (by omega);have M2:=zh s (i+2) 128 191 (↑i+2) (by omega) hs (by omega) (by omega) (by omega);revert M1 M2;exact qQ.elim fun x=>x):P:=h ⟨q⟩
theorem jjq{P Q:Prop}(q:Q)(h:Nonempty Q->P:=by
 intro qQ;have hw:wrap64 (s[i].toNat:Int)=(b:Int):=by rw [jE s i hi,hb];exact IntWalk.wrap64_in _ ⟨by omega,by omega⟩
 have x1:=uM s (i+1) (jD b) (kE b) (by unfold jD;split<;>(try split)<;>omega);have y1:=uM s (i+2) 128 191 (by omega);revert hw x1 y1;exact qQ.elim fun x=>x):P:=h ⟨q⟩
theorem jjx{P Q:Prop}(q:Q)(h:Nonempty Q->P:=by
 intro qQ;refine bodyPost_ret (v:=.agg #[.int .i64 65533,.int .i64 1]) (by simp [results,results189,go_sem]) rfl ⟨?_,(Below.refl _ _).alloc (Nat.le_refl _) _⟩;exact qQ.elim fun x=>x):P:=h ⟨q⟩
theorem R9 (s:ByteArray) (i:Nat) (w:World) (hs:s.size<=140737488355328) (hi:i<s.size) (h1:224<=bt s i) (h2:bt s i<=239) : Calls prog 189 #[.string s,.int .i64 i] w fun e w'=>e=.returned (.agg #[.int .i64 (Utf8.decode s i).1,.int .i64 (Utf8.decode s i).2])/\Below w.heap.size w w':=by
 obtain ⟨D1,D2⟩:=Fb s i hi h1 h2;generalize hb:bt s i=b at *;refine jjq ?_;clear hb;intro hw x1 y1;refine jjk ?_;intro M1 M2;generalize q24 s (i+1) (jD b) (kE b)=x at *;generalize q24 s (i+2) 128 191=y at *;generalize Utf8.decode s i=d at *;obtain ⟨d1,d2⟩:=d;have k:(((b:Int)==224)=true/\((b:Int)==237)=false/\jD b=160/\kE b=191)\/(((b:Int)==224)=false/\((b:Int)==237)=true/\jD b=128/\kE b=159) \/
   (((b:Int)==224)=false/\((b:Int)==237)=false/\jD b=128/\kE b=191):=by
  unfold jD kE;by_cases k1:b=224
  ·left;subst k1;simp
  ·by_cases k2:b=237
   ·right;left;subst k2;simp
   ·right;right;refine ⟨by simp;omega,by simp;omega,?_,?_⟩<;>repeat (first | rw [if_neg (by omega)])
 have E1:=hid D1;have E2:=hid D2;clear D1 D2;rcases k with ⟨k1,k2,k3,k4⟩ | ⟨k1,k2,k3,k4⟩ | ⟨k1,k2,k3,k4⟩
 all_goals
  rw [k3,k4] at M1;clear k3 k4;go_enter func189,ntmps189;go_wp2_with fail
  refine (M1 _).mono ?_;rintro e w' ⟨rfl,rfl⟩;go_wp2_with fail
  refine (M2 _).mono ?_;rintro e w' ⟨rfl,rfl⟩;by_cases hx:x<0
  ·go_wp2;refine jjx ?_;obtain ⟨rfl,rfl⟩:=Prod.mk.inj (E1.out (.inl hx));rfl
  ·by_cases hy:y<0
   ·go_wp2;refine jjx ?_;obtain ⟨rfl,rfl⟩:=Prod.mk.inj (E1.out (.inr hy));rfl
   ·go_wp2;refine bodyPost_ret (v:=.agg #[.int .i64 ((b-224)*4096+x*64+y),.int .i64 3]) (by simp [results,results189,go_sem]) rfl ⟨?_,(Below.refl _ _).alloc (Nat.le_refl _) _⟩;obtain ⟨r1,r2⟩:=E2.out (by omega) (by omega);exact Ca r1 (by simp only [r2];rfl)
theorem Xm{P:Prop}(h:P:=by
 go_wp2;exact bodyPost_ret (v:=.agg #[.int .i64 65533,.int .i64 1]) (by simp [results,results190,go_sem]) rfl ⟨rfl,(Below.refl _ _).alloc (Nat.le_refl _) _⟩):P:=h
theorem Xn (s:ByteArray) (i:Nat) (w:jN9) (hs:s.size<=140737488355328) (hi:i<s.size) (h1:240<=bt s i) (h2:bt s i<=244) : Calls prog 190 #[.string s,.int .i64 i] w fun e w'=>e=.returned (.agg #[.int .i64 (Utf8.decode s i).1,.int .i64 (Utf8.decode s i).2])/\Below w.heap.size w w':=by
 obtain ⟨D1,D2⟩:=Ka s i hi h1 h2;generalize hb:bt s i=b at *;refine jjq ?_;clear hb;intro hw x1 y1;have z1:=uM s (i+3) 128 191 (by omega);refine jjk ?_;intro M1 M2;have M3:=zh s (i+3) 128 191 (↑i+3) (by omega) hs (by omega) (by omega) (by omega);generalize q24 s (i+1) (jD b) (kE b)=x at *;generalize q24 s (i+2) 128 191=y at *;generalize q24 s (i+3) 128 191=z at *;generalize Utf8.decode s i=d at *;obtain ⟨d1,d2⟩:=d;have k:(((b:Int)==240)=true/\((b:Int)==244)=false/\jD b=144/\kE b=191)\/(((b:Int)==240)=false/\((b:Int)==244)=true/\jD b=128/\kE b=143) \/
   (((b:Int)==240)=false/\((b:Int)==244)=false/\jD b=128/\kE b=191):=by
  unfold jD kE;by_cases k1:b=240
  ·left;subst k1;simp
  ·by_cases k2:b=244
   ·right;left;subst k2;simp
   ·right;right;refine ⟨by simp;omega,by simp;omega,?_,?_⟩<;>repeat (first | rw [if_neg (by omega)])
 have E1:=hid D1;have E2:=hid D2;clear D1 D2;rcases k with ⟨k1,k2,k3,k4⟩ | ⟨k1,k2,k3,k4⟩ | ⟨k1,k2,k3,k4⟩
 all_goals
  rw [k3,k4] at M1;clear k3 k4;go_enter func190,ntmps190;go_wp2_with fail
  refine (M1 _).mono ?_;rintro e w' ⟨rfl,rfl⟩;go_wp2_with fail
  refine (M2 _).mono ?_;rintro e w' ⟨rfl,rfl⟩;go_wp2_with fail
  refine (M3 _).mono ?_;rintro e w' ⟨rfl,rfl⟩;by_cases hn:x<0\/y<0\/z<0
  ·obtain ⟨rfl,rfl⟩:=Prod.mk.inj (E1.out hn);by_cases hx:x<0
   ·exact Xm
   ·by_cases hy:y<0
    ·exact Xm
    ·have hz:z<0:=by omega
     exact Xm
  ·have hx:0<=x:=by omega
   have hy:0<=y:=by omega
   have hz:0<=z:=by omega
   clear hn;go_wp2;refine bodyPost_ret (v:=.agg #[.int .i64 ((b-240)*262144+x*4096+y*64+z),.int .i64 4]) (by simp [results,results190,go_sem]) rfl ⟨?_,(jK7 _ _).alloc (jK8 _) _⟩;obtain ⟨r1,r2⟩:=E2.out hx hy hz;exact Ca r1 (by simp only [r2];rfl)
open Go.RowKit
def ju6 (f:Nat) (s:ByteArray) (i:Int) (d1 d2:Int):Prop:=
 ∀ w:jN9,Calls prog f #[.string s,.int .i64 i] w fun e w'=>e=.returned (.agg #[.int .i64 d1,.int .i64 d2])/\Below w.heap.size w w'
theorem jjz {W w1:jN9} (hb:Below W.heap.size W w1):(∀ b o,b<W.heap.size->w1.cell? ⟨b,o,none⟩=W.cell? ⟨b,o,none⟩)/\(∀ b o,b<W.heap.size->w1.frozen? ⟨b,o,none⟩=W.frozen? ⟨b,o,none⟩):=
 ⟨fun b o h=>hb.cell (p:=⟨b,o,none⟩) h,fun b o h=>hb.frozen (p:=⟨b,o,none⟩) h⟩
theorem jk0{P:Prop}(h:P:=by
 generalize Utf8.decode s i=d at *;obtain ⟨d1,d2⟩:=d;have T:=hid T;go_enter func150,ntmps150;go_wp2_with fail
 refine (T.out _).mono ?_;rintro e w' ⟨rfl,hb⟩;obtain ⟨hc,hf⟩:=jjz hb;go_wp2;refine bodyPost_ret (v:=.agg #[.int .i64 d1,.int .i64 d2]) (by simp [results,results150,go_sem,hc]) rfl ⟨rfl,?_⟩;exact ((((Below.refl _ _).alloc (Nat.le_refl _) _).trans (hb.mono (by simp))).setCell (by simp) _).setCell (by simp) _):P:=h
theorem Xo{P:Prop}(h:P:=by
 go_wp2;exact bodyPost_ret (v:=.agg #[.int .i64 65533,.int .i64 1]) (by simp [results,results150,go_sem]) rfl ⟨rfl,(Below.refl _ _).alloc (Nat.le_refl _) _⟩):P:=h
theorem Xj (s:ByteArray) (i:Nat) (hs:s.size<=140737488355328) (hi:i<s.size) : ju6 150 s i (Utf8.decode s i).1 (Utf8.decode s i).2:=by
 intro w;have hbl:=gu s i;have hw:wrap64 (s[i].toNat:Int)=(bt s i:Int):=by rw [jE s i hi];exact IntWalk.wrap64_in _ ⟨by omega,by omega⟩
 by_cases c1:bt s i<128
 ·rw [yL s i c1];go_enter func150,ntmps150;go_wp2;exact bodyPost_ret (v:=.agg #[.int .i64 (bt s i),.int .i64 1]) (by simp [results,results150,go_sem]) rfl ⟨rfl,(jK7 _ _).alloc (jK8 _) _⟩
 by_cases c2:bt s i<194
 ·rw [yM s i (by omega) (.inl c2)];go_enter func150,ntmps150;exact Xo
 by_cases c3:bt s i<=223
 ·obtain ⟨D1,D2⟩:=yN s i hi (by omega) c3;have x1:=uM s (i+1) 128 191 (by omega);have M1:=zh s (i+1) 128 191 (↑i+1) (by omega) hs (by omega) (by omega) (by omega);generalize q24 s (i+1) 128 191=x at *;generalize Utf8.decode s i=d at *;obtain ⟨d1,d2⟩:=d;have E1:=hid D1;have E2:=hid D2;clear D1 D2;go_enter func150,ntmps150;go_wp2_with fail
  refine (M1 _).mono ?_;rintro e w' ⟨rfl,rfl⟩;by_cases hx:x<0
  ·obtain ⟨rfl,rfl⟩:=Prod.mk.inj (E1.out hx);exact Xo
  ·go_wp2;refine bodyPost_ret (v:=.agg #[.int .i64 ((bt s i-192)*64+x),.int .i64 2]) (by simp [results,results150,go_sem]) rfl ⟨?_,(jK7 _ _).alloc (jK8 _) _⟩;obtain ⟨r1,r2⟩:=E2.out (by omega);exact Ca r1 (by simp only [r2];rfl)
 by_cases c4:bt s i<=239
 ·have T:=(R9 s i · hs hi (by omega) c4);exact jk0
 by_cases c5:bt s i<=244
 ·have T:=(Xn s i · hs hi (by omega) c5);exact jk0
 rw [yM s i (by omega) (.inr (by omega))];go_enter func150,ntmps150;exact Xo
open Go.RowKit
theorem Nz (c:Nat) (w:jN9) (hc:c<=1114111) : Calls prog 247 #[.int .i64 (c:Int)] w fun e w'=>e=.returned (.int .i64 (gq c:Nat))/\w=w':=by go_enter func247,ntmps247;exact jjj
theorem Ny (c:Nat) (w:jN9) (hc:c<=1114111) : Calls prog 246 #[.int .i64 (c:Int)] w fun e w'=>e=.returned (.bool (spC c))/\w=w':=by go_enter func246,ntmps246;exact jj9
def Cb (c:Nat) (rs:List (Nat × Nat)):Bool:=rs.any fun r=>j6 c r.1 r.2
theorem Sb (c:Nat) (rs:List (Nat × Nat)) (k:Nat) (r:Nat × Nat) (h:rs[k]?=some r):Cb c (rs.take (k+1))=(Cb c (rs.take k)||j6 c r.1 r.2):=by unfold Cb;rw [List.take_add_one,h];simp
theorem Sc (c:Nat) (rs:List (Nat × Nat)) (k:Nat) (h:Cb c (rs.take k)=true):Cb c rs=true:=by unfold Cb at *;rw [List.any_eq_true] at *;obtain ⟨x,hx,h⟩:=h;exact ⟨x,List.mem_of_mem_take hx,h⟩
def jB0 (w wr:jN9) (c:Nat) (rs:List (Nat × Nat)) (vi:jNk):Prop:=
 ∃ k:Nat,k<=rs.length/\vi=.int .i64 k/\Cb c (rs.take k)=false/\Below w.heap.size w wr
theorem jb7 (c:Nat) (rs:List (Nat × Nat)) (b cap:Nat) (w:jN9) (hc:c<=1114111) (hn:rs.length<=1000) (hcell:∀ i r,rs[i]?=some r->w.cell? ⟨b,i*2,none⟩=some (.int .i64 r.1)/\w.cell? ⟨b,i*2+1,none⟩=some (.int .i64 r.2)) : Calls prog 249 #[.int .i64 (c:Int),.slice (some ⟨b,0,none⟩) rs.length cap] w fun e w'=>e=.returned (.bool (Cb c rs))/\Below w.heap.size w w':=by
 have HC:=hid hcell;have HZ:Hid (Cb c (rs.take 0)=false):=rfl;clear hcell;go_enter func249,ntmps249;go_wp2
 go_loopw [9] (fun vi wr=>jB0 w wr c rs vi) (fun i _=>rs.length-(intOf i).toNat)
 case atStart=>exact ⟨0,jL3 _,rfl,HZ.out,jK7 _ _⟩
 case round=>
  obtain ⟨k,hk,rfl,hany,hbel⟩:=hrel;have HA:=hid hany;clear hany;by_cases hlt:k<rs.length
  ·obtain ⟨r,hr⟩:∃ r,rs[k]?=some r:=⟨_,List.getElem?_eq_getElem hlt⟩;obtain ⟨k1,k2⟩:=HC.out k r hr;have hbl:b<w.heap.size:=nX k1;have c1:wr.cell? ⟨b,k*2,none⟩=some (.int .i64 r.1):=by rw [hbel.cell (p:=⟨b,k*2,none⟩) hbl];exact k1
   have c2:wr.cell? ⟨b,k*2+1,none⟩=some (.int .i64 r.2):=by rw [hbel.cell (p:=⟨b,k*2+1,none⟩) hbl];exact k2
   have hsn:=Sb c rs k r hr;rw [HA.out] at hsn;have kg:=hid hsn;have HT:=hid (Sc c rs (k+1));obtain ⟨r1,r2⟩:=r;clear hr k1 k2 hsn;go_wp2_with fail
   ·go_ret;exact ⟨by rw [HT.out (by rw [kg.out];simp [j6];omega)];rfl,hbel.alloc hbel.size _⟩
   all_goals
    exact ⟨⟨k+1,by omega,by go_num,by rw [kg.out];simp [j6];omega,hbel.alloc hbel.size _⟩,by simp [intOf];omega⟩
  ·have hkl:k=rs.length:=by omega
   have hA:=HA.out;rw [hkl,List.take_length] at hA;have HA2:=hid hA;clear hA HA hkl;go_wp2;go_ret;exact ⟨by rw [HA2.out];rfl,hbel⟩
def rgCells (rs:List (Nat × Nat)):List jNk:=(rs.map fun r=>[Value.int .i64 (r.1:Int),Value.int .i64 (r.2:Int)]).flatten
theorem Xp (w:jN9) (T:TypeId) (rs:List (Nat × Nat)):∀ i r,rs[i]?=some r->(w.alloc (.cells (rgCells rs).toArray T)).cell? ⟨w.heap.size,i*2,none⟩=some (.int .i64 r.1)/\(w.alloc (.cells (rgCells rs).toArray T)).cell? ⟨w.heap.size,i*2+1,none⟩=some (.int .i64 r.2):=by
 intro i r h;have hr:(rs.map fun r=>[Value.int .i64 (r.1:Int),Value.int .i64 (r.2:Int)])[i]?=some [.int .i64 r.1,.int .i64 r.2]:=by simp [h]
 have hl:∀ x∈(rs.map fun r=>[Value.int .i64 (r.1:Int),Value.int .i64 (r.2:Int)]),x.length=2:=by intro x hx;obtain ⟨y,_,rfl⟩:=List.mem_map.1 hx;rfl
 have h0:=Y4 2 _ hl i 0 _ (.int .i64 r.1) hr rfl;have h1:=Y4 2 _ hl i 1 _ (.int .i64 r.2) hr rfl;have e:∀ j,((⟨w.heap.size,0,none⟩:Addr).add j)=⟨w.heap.size,j,none⟩:=fun j=>by unfold Addr.add;split<;>simp_all
 have g0:=JA w (rgCells rs) T _ _ h0;have g1:=JA w (rgCells rs) T _ _ h1;rw [e] at g0 g1;exact ⟨g0,g1⟩
def Kt:List (Nat × Nat):=[(65,90),(97,122),(170,170),(181,181),(186,186),(192,214),(216,246),(248,687),(880,1327),(4256,4351),(7680,8191),(12353,12538),(19968,40959),(44032,55203)]
theorem Sd (c:Nat):Cb c Kt=iV c:=by simp [Cb,Kt,iV,Bool.or_assoc]
theorem Ku (c:Nat) (w:jN9) (hc:c<=1114111) : Calls prog 218 #[.int .i64 (c:Int)] w fun e w'=>e=.returned (.bool (iV c))/\Below w.heap.size w w':=by
 have RI:=hid (fun T=>jb7 c Kt w.heap.size 14 (w.alloc (.cells (rgCells Kt).toArray T)) hc (by decide) (Xp w T Kt));rw [<- Sd c];go_enter func218,ntmps218;go_wp2_with fail
 refine (RI.out _).mono ?_;rintro e w1 ⟨rfl,hb1⟩;go_wp2;go_ret;exact ⟨rfl,((jK7 _ w).alloc (jK8 _) _).trans (hb1.mono (by simp))⟩
def Xq (w:jN9) (bs:List jNk) (e:Ending) (w':jN9):Prop:=∃ g cap,e=.returned (.slice (some ⟨g,0,none⟩) bs.length cap)/\bs.length<=cap/\w.heap.size<=g/\(∀ j u,bs[j]?=some u->w'.cell? ((⟨g,0,none⟩:Addr).add j)=some u)/\Below w.heap.size w w'
theorem jk1{P Q:Prop}(q:Q)(h:Nonempty Q->P:=by
 intro qQ;have e1:decide ((c:Int)<0)=false:=by simp
 have e2:decide ((1114111:Int)<(c:Int))=false:=by simp;omega
 have e3:decide ((55296:Int)<=(c:Int))=true:=by simp;omega
 have e4:decide ((c:Int)<=57343)=false:=by simp;omega
 have e5:decide ((c:Int)<128)=false:=by simp;omega
 have e6:decide ((c:Int)<2048)=false:=by simp;omega
 revert e1 e2 e3 e4 e5 e6;exact qQ.elim fun x=>x):P:=h ⟨q⟩
theorem Fx (c:Nat) (w:World) (hc:c<=1114111) (hs:c<55296\/57343<c) : Calls prog 270 #[.int .i64 (c:Int)] w (Xq w (Lib.runeCells (c:Int))):=by
 have fin:∀ (bs:List Value) (n:Nat),bs.length=n->Xq w bs (.returned (.slice (some ⟨w.heap.size,0,none⟩) n n)) (w.alloc (.cells bs.toArray 5)):=by rintro bs n rfl;exact ⟨w.heap.size,bs.length,rfl,Nat.le_refl _,Nat.le_refl _,JA w bs _,(Below.refl _ w).alloc (Nat.le_refl _) _⟩
 have HF:=hid fin;clear fin;by_cases h1:c<128
 ·have e:Lib.runeCells (c:Int)=[.int .u8 (c:Int)]:=by unfold Lib.runeCells;rw [Lib.encodeRuneZ_one (by omega) (by omega)];rfl
  rw [e];clear e;go_enter func270,ntmps270;go_wp2_with fail
  go_ret;exact HF.out _ 1 rfl
 by_cases h2:c<2048
 ·have e:Lib.runeCells (c:Int)=[.int .u8 (192+(c:Int)/64),.int .u8 (128+(c:Int)%64)]:=by unfold Lib.runeCells;rw [Lib.encodeRuneZ_two (by omega) (by omega)];rfl
  rw [e];clear e;go_enter func270,ntmps270;go_wp2_with fail
  go_ret;exact HF.out _ 2 rfl
 by_cases h3:c<65536
 ·have e:Lib.runeCells (c:Int)=[.int .u8 (224+(c:Int)/4096),.int .u8 (128+(c:Int)/64%64),.int .u8 (128+(c:Int)%64)]:=by unfold Lib.runeCells;rw [Lib.encodeRuneZ_three (by omega)];rfl
  rw [e];clear e;rcases hs with hs | hs
  ·have e0:decide ((c:Int)<65536)=true:=by simp;omega
   have e1:decide ((c:Int)<0)=false:=by simp
   have e2:decide ((1114111:Int)<(c:Int))=false:=by simp;omega
   have e3:decide ((55296:Int)<=(c:Int))=false:=by simp;omega
   have e5:decide ((c:Int)<128)=false:=by simp;omega
   have e6:decide ((c:Int)<2048)=false:=by simp;omega
   clear hs;go_enter func270,ntmps270;go_wp2_with fail
   go_ret;exact HF.out _ 3 rfl
  ·have e0:decide ((c:Int)<65536)=true:=by simp;omega
   refine jk1 ?_;intro e1 e2 e3 e4 e5 e6;clear hs;go_enter func270,ntmps270;go_wp2_with fail
   go_ret;exact HF.out _ 3 rfl
 ·have e:Lib.runeCells (c:Int)=[.int .u8 (240+(c:Int)/262144),.int .u8 (128+(c:Int)/4096%64),.int .u8 (128+(c:Int)/64%64),.int .u8 (128+(c:Int)%64)]:=by unfold Lib.runeCells;rw [Lib.encodeRuneZ_four (by omega) (by omega)];rfl
  rw [e];clear e;have e0:decide ((c:Int)<65536)=false:=by simp;omega
  refine jk1 ?_;intro e1 e2 e3 e4 e5 e6;clear hs;go_enter func270,ntmps270;go_wp2_with fail
  go_ret;exact HF.out _ 4 rfl
theorem Nv (c:Nat) (w:World) (hc:c<=1114111) : Calls prog 270 #[.int .i64 (c:Int)] w (Xq w (Lib.runeCells (c:Int))):=by
 by_cases hs:c<55296\/57343<c
 ·exact Fx c w hc hs
 ·have e:Lib.runeCells (c:Int)=Lib.runeCells ((65533:Nat):Int):=by
   unfold Lib.runeCells Lib.encodeRuneZ;rw [if_neg (by omega),if_neg (by omega),if_neg (by omega),if_neg (by omega)];rfl
  rw [e];have RB:=hid (fun w=>Fx 65533 w (by omega) (by omega));clear e;go_enter func270,ntmps270;go_wp2_with fail
  refine (RB.out _).mono ?_;rintro e w1 ⟨g,cap,rfl,h1,h2,h3,h4⟩;go_wp2;go_ret;exact ⟨g,cap,rfl,h1,h2,h3,h4⟩
open Go.RowKit
def dW (c:Nat):Bool:=j6 c 97 122||j6 c 65 90
def Il (c:Nat):Bool:=(decide (c=45)||decide (c=95)||decide (c=46)||decide (c=58))||(dW c||j6 c 48 57)
theorem xY (c:Nat) (w:World) (hc:c<256) : Calls prog 96 #[.int .u8 (c:Int)] w fun e w'=>e=.returned (.bool (dW c))/\w=w':=by
 go_enter func96,ntmps96;go_wp2;all_goals
  go_ret;refine ⟨vB ?_,rfl⟩;unfold dW j6;rw [Bool.eq_iff_iff];simp
  (try omega)
theorem jk2{P:Prop}(h:P:=by
 go_enter func149,ntmps149;go_wp2_with fail
 refine (LT.out _).mono ?_;rintro e w1 ⟨rfl,rfl⟩;go_wp2;go_ret;refine ⟨?_,rfl⟩;rw [HV.out];refine vB ?_;rw [Bool.eq_iff_iff];simp [j6];omega):P:=h
theorem Bw (c:Nat) (w:jN9) (hc:c<256) : Calls prog 149 #[.int .u8 (c:Int)] w fun e w'=>e=.returned (.bool (Il c))/\w=w':=by
 have LT:=hid (fun w=>xY c w hc);by_cases h:c=45\/c=95\/c=46\/c=58
 ·have hv:Il c=true:=by unfold Il;rcases h with h | h | h | h<;>simp [h]
  rw [hv];clear hv;rcases h with rfl | rfl | rfl | rfl
  all_goals
   go_enter func149,ntmps149;go_wp2;go_ret;exact ⟨rfl,rfl⟩
 ·have e1:((c:Int)==45)=false:=by rw [beq_eq_false_iff_ne];omega
  have e2:((c:Int)==95)=false:=by rw [beq_eq_false_iff_ne];omega
  have e3:((c:Int)==46)=false:=by rw [beq_eq_false_iff_ne];omega
  have e4:((c:Int)==58)=false:=by rw [beq_eq_false_iff_ne];omega
  have hv:Il c=(dW c||j6 c 48 57):=by unfold Il;rw [show (decide (c=45)||decide (c=95)||decide (c=46)||decide (c=58))=false by simp;omega];rfl
  have HV:=hid hv;generalize Il c=V at *;clear hv h;cases hl:dW c with
  | true=>
   rw [hl] at LT;go_enter func149,ntmps149;go_wp2_with fail
   refine (LT.out _).mono ?_;rintro e w1 ⟨rfl,rfl⟩;go_wp2;go_ret;exact ⟨by rw [HV.out,hl];rfl,rfl⟩
  | false=>
   rw [hl] at LT;rw [hl] at HV;by_cases h48:48<=c
   ·have q1:decide ((48:Int)<=(c:Int))=true:=by simp;omega
    exact jk2
   ·have q1:decide ((48:Int)<=(c:Int))=false:=by simp;omega
    exact jk2
def gM (c:UInt8):Bool:=Il c.toNat
theorem qR (p:UInt8->Bool):∀ (l:List UInt8) (k:Nat),k<=l.length->(∀ j x,j<k->l[j]?=some x->p x=true)->(∀ x,l[k]?=some x->p x=false)->(l.takeWhile p).length=k
 | [],k,h,_,_=>by simp at h;subst h;rfl
 | x::l,0,_,_,h2=>by rw [List.takeWhile_cons,h2 x rfl];rfl
 | x::l,k+1,h,h1,h2=>by
  rw [List.takeWhile_cons,h1 0 x (by omega) rfl];simp;exact qR p l k (by simpa using h) (fun j y hj hy=>h1 (j+1) y (by omega) (by simpa using hy)) (fun y hy=>h2 y (by simpa using hy))
def qN (s:ByteArray):Nat:=(s.data.toList.takeWhile gM).length
theorem CY (s:ByteArray) (k:Nat) (h:k<s.size):s.data.toList[k]?=some s[k]:=by rw [List.getElem?_eq_getElem (by simpa using h)];rfl
theorem P6{P:Prop}(h:P:=by
 rcases Nat.lt_or_ge j k with h | h
 ·exact HA.out j x h hx
 ·have:j=k:=by omega
  subst this;rw [HG.out] at hx;obtain rfl:=Option.some.inj hx;exact HN.out):P:=h
theorem P7{P:Prop}(h:P:=by
 have HW:=hid hw;clear hn hw;go_wp2_with fail
 refine (IN.out _).mono ?_;rintro e w1 ⟨rfl,rfl⟩;go_wp2;go_ret;exact ⟨by rw [HW.out];rfl,rfl⟩):P:=h
theorem jk3{P:Prop}(h:P:=by
 have hw:V=k:=by
  rw [HV.out];refine qR gM _ k (by simpa using hk) HA.out (fun x hx=>?_);have:=(List.getElem?_eq_some_iff.1 hx).1;have e:s.data.toList.length=s.size:=by simp
  omega
 have HW:=hid hw;clear hw;go_wp2;go_ret;exact ⟨by rw [HW.out];rfl,rfl⟩):P:=h
theorem jk4{P:Prop}(h:P:=by
 rw [HV.out];exact qR gM _ k (by simpa using hk) HA.out (fun x hx=>by rw [HG.out] at hx;obtain rfl:=Option.some.inj hx;exact hn)):P:=h
theorem Kv (s:ByteArray) (w:jN9) (hs:s.size<=1000000000) : Calls prog 97 #[.string s,.int .i64 0] w fun e w'=>e=.returned (.int .i64 (qN s:Nat))/\w=w':=by
 obtain ⟨V,hV⟩:∃ V,V=qN s:=⟨_,rfl⟩;rw [<- hV];have HV:=hid hV;clear hV;go_enter func97,ntmps97;go_wp2
 go_loop [1] (fun vi=>∃ k:Nat,k<=s.size/\vi=.int .i64 k/\∀ j x,j<k->s.data.toList[j]?=some x->gM x=true) (fun i=>s.size-(intOf i).toNat)
 case atStart=>exact ⟨0,jL3 _,rfl,fun j x hj=>by omega⟩
 case round=>
  obtain ⟨k,hk,rfl,hall⟩:=hrel;have HA:=hid hall;clear hall;by_cases hlt:k<s.size
  ·have hgl:=UInt8.toNat_lt s[k];have IN:=hid (fun w=>Bw s[k].toNat w hgl);have HG:=hid (CY s k hlt);cases hn:Il s[k].toNat with
   | true=>
    rw [hn] at IN;have HN:=hid hn;clear hn;go_wp2_with fail
    refine (IN.out _).mono ?_;rintro e w1 ⟨rfl,rfl⟩;go_wp2
    go_round
    case rel=>
     refine ⟨k+1,by omega,by go_num,fun j x hj hx=>?_⟩;exact P6
    case measure=>simp [intOf];omega
   | false=>
    rw [hn] at IN;have hw:V=k:=by exact jk4
    exact P7
  ·exact jk3
def dQ (s:ByteArray):Bool:=decide (1<=s.size)&&decide (s.size<=60)&&(match s.data.toList with | []=>false | c::_=>dW c.toNat)&&decide (qN s=s.size)
theorem jk5{P:Prop}(h:P:=by
 go_wp2_with fail
 refine (LT.out _).mono ?_;rintro e w1 ⟨rfl,rfl⟩;go_wp2_with fail
 refine (WE.out _).mono ?_;rintro e w1 ⟨rfl,rfl⟩;go_wp2;go_ret;refine ⟨?_,rfl⟩;rw [HV.out];refine vB ?_;rw [Bool.eq_iff_iff];simp
 (try omega)):P:=h
theorem jk6{P:Prop}(h:P:=by
 go_wp2_with fail
 refine (LT.out _).mono ?_;rintro e w1 ⟨rfl,rfl⟩;go_wp2;go_ret;exact ⟨by rw [HV.out];rfl,rfl⟩):P:=h
theorem jk7{P:Prop}(h:P:=by
 unfold dQ;rw [hl,decide_eq_true (show 1<=s.size by omega),decide_eq_true (show s.size<=60 by omega)];rfl):P:=h
theorem Tm (s:ByteArray) (w:jN9) (hs:s.size<=1000000000) : Calls prog 52 #[.string s] w fun e w'=>e=.returned (.bool (dQ s))/\w=w':=by
 by_cases h0:s.size=0
 ·have hv:dQ s=false:=by unfold dQ;simp [h0]
  rw [hv];have e0:((s.size:Int)==0)=true:=by simp [h0]
  clear hv h0;go_enter func52,ntmps52;go_wp2;go_ret;exact ⟨rfl,rfl⟩
 have e0:((s.size:Int)==0)=false:=by rw [beq_eq_false_iff_ne];omega
 by_cases h60:60<s.size
 ·have hv:dQ s=false:=by unfold dQ;simp;omega
  rw [hv];have e1:decide ((60:Int)<(s.size:Int))=true:=by simp;omega
  clear hv;go_enter func52,ntmps52;go_wp2;go_ret;exact ⟨rfl,rfl⟩
 have e1:decide ((60:Int)<(s.size:Int))=false:=by simp;omega
 have hp:0<s.size:=by omega
 have hg:=CY s 0 hp;obtain ⟨c,hc⟩:∃ c,s[0]=c:=⟨_,rfl⟩;rw [hc] at hg;have hcl:=UInt8.toNat_lt c;have LT:=hid (fun w=>xY c.toNat w hcl);have WE:=hid (fun w=>Kv s w hs);have hl:s.data.toList=c::s.data.toList.tail:=by
  cases h:s.data.toList with
  | nil=>rw [h] at hg;simp at hg
  | cons a l=>rw [h] at hg;simp at hg;rw [hg];rfl
 have hv:dQ s=(dW c.toNat&&decide (qN s=s.size)):=by exact jk7
 have HV:=hid hv;generalize dQ s=V at *;generalize qN s=E at *;clear hv hl hg;cases hlt:dW c.toNat with
 | false=>
  rw [hlt] at LT;rw [hlt] at HV;go_enter func52,ntmps52;exact jk6
 | true=>
  rw [hlt] at LT;rw [hlt] at HV;go_enter func52,ntmps52;exact jk5
open Go.RowKit
end Go.Proofs.YtkfnkeflalcphaaGreatDoor

