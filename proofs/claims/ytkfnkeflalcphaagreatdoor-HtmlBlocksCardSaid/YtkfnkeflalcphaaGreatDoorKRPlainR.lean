/- Small laws on memory, used by the walks of this seat. Data in memory: what cells read as, whatever the types; kept while the blocks that are read stay. The document's data, as plain data and in memory. Plain functions on the document's data, and its cells for a walk. The contract of publisherref04.Plain. Contracts of chars.Space, Digit, Letter, Lower: what they are of a code point. Contracts of the code point readers of publisherref01 and of white space, over this seat's translation. The contract of publisherref01.at: the code point at a byte is the one that UTF-8 decoding gives. Contracts of publisherref01.Lower, in, Letter, bytes, Text. Contracts of attr.letter, inName, wordEnd, Name. The contract of publisherref04.Plain. -/
import Derived.Test.YtkfnkeflalcphaaGreatDoorProg
import Derived.BigQuiet
import Derived.Lib.Hide
import Derived.WalkLawsBesides
import Derived.Lib.Strings
import Derived.Test.YtkfnkeflalcphaaGreatDoorKPlFold
set_option maxHeartbeats 4000000
set_option maxRecDepth 100000
open Go.Lib (hid)
namespace Go.Proofs.YtkfnkeflalcphaaGreatDoor
open List renaming getElem?_eq_getElem->jD6
open Go.RowKit.Below renaming refl->jD7
open Nat renaming le_refl->jD8,zero_le->jE3
open Bool renaming eq_iff_iff->jDk
open Go renaming World->jG9,Value->jGk
open Go.RowKit
theorem q24 {B:Nat} {e:TypeId} {k:Nat} {v:jGk} {n:Nat} {xs:List jGk} {w w':jG9} (h:w.ownsRow B e k v n xs) (hb:Below w.heap.size w w'):w'.ownsRow B e k v n xs:=
 h.kept (row:=none) ⟨hb.os,hb.tape,hb.output,hb.size,fun i hi _=>hb.block i hi⟩ (by cases v.ownBlock<;>simp)
theorem below_app {B:Nat} {w wr w1:jG9} {e:TypeId} {k:Nat} {v:jGk} {n:Nat} {xs:List jGk} {o:Obj} (hbel:Below B w wr) (hB:B<=wr.heap.size) (hown:wr.ownsRow B e k v n xs) (hg:(wr.alloc o).grownBy w1 v.ownBlock):Below B w w1:=
 (hbel.alloc hB o).grown hg (by simp;omega) (fun j hj=>(hown.lt j hj).1)
theorem iR {B:Nat} {a w:jG9} (h:Below B a w) (q:Nat):Below B a (w.drewN q):=⟨h.os,h.tape,h.output,h.size,h.block⟩
theorem q01 {w wr w1:jG9} (h:Below w.heap.size w wr) (h1:Below wr.heap.size wr w1):Below w.heap.size w w1:=h.trans (h1.mono h.size)
theorem Gh (w:jG9) (cs:List jGk) (T:TypeId):∀ j u,cs[j]?=some u->(w.alloc (.cells cs.toArray T)).cell? ((⟨w.heap.size,0,none⟩:Addr).add j)=some u:=by
 intro j u h;have e:((⟨w.heap.size,0,none⟩:Addr).add j)=⟨w.heap.size,j,none⟩:=by unfold Addr.add;split<;>simp_all
 rw [e];have hb:(w.alloc (.cells cs.toArray T)).heap[w.heap.size]?=some (.cells cs.toArray T):=by show (w.heap.push _)[w.heap.size]?=_;simp
 simp only [World.cell?,hb];simpa using h
theorem EK (w:jG9) (v:jGk) (T:TypeId):∀ j u,[v][j]?=some u->(w.alloc (.cells #[v] T)).cell? ((⟨w.heap.size,0,none⟩:Addr).add j)=some u:=Gh w [v] T
theorem ze {w:jG9} {B B':Nat} {e:TypeId} {k:Nat} {v:jGk} {n:Nat} {xs:List jGk} (h:w.ownsRow B e k v n xs) (hb:B'<=B):w.ownsRow B' e k v n xs:=by
 obtain ⟨h1,h2⟩:=h;refine ⟨h1,?_⟩;rcases h2 with h2 | ⟨g,cap,cur,r1,r2,r3⟩
 ·exact .inl h2
 ·exact .inr ⟨g,cap,cur,r1,Nat.le_trans hb r2,r3⟩
theorem jE {w:jG9} {B:Nat} {e:TypeId} {k:Nat} {v:jGk} {n:Nat} {xs:List jGk} (h:w.ownsRow B e k v n xs) (hn:0<n):∃ g cap,v=.slice (some ⟨g,0,none⟩) n cap/\n<=cap:=by
 rcases h.2 with ⟨_,h2⟩ | ⟨g,cap,cur,r1,r2,r3,r4,_⟩
 ·omega
 ·exact ⟨g,cap,r1,r4⟩
theorem GY {a b c:jG9} {row:Option Nat} (h:a.grownBy b row) (k:b.grownBy c row):a.grownBy c row:=
 ⟨k.os.trans h.os,k.tape.trans h.tape,k.output.trans h.output,Nat.le_trans h.size k.size,fun i hi hr=>(k.block i (Nat.lt_of_lt_of_le hi h.size) hr).trans (h.block i hi hr)⟩
theorem JI {a b:jG9} {row:Option Nat} (h:a.grownBy b row):a.grownBy b.drew row:=⟨h.os,h.tape,h.output,h.size,h.block⟩
theorem qw {w:jG9} {b o:Nat} {v:jGk} (h:w.cell? ⟨b,o,none⟩=some v):b<w.heap.size:=by
 refine Nat.lt_of_not_le fun hle=>?_
 have:w.heap[b]?=none:=by rw [Array.getElem?_eq_none_iff];exact hle
 simp [World.cell?,this] at h
theorem past {w:jG9} {b off:Nat} {v:jGk} (h:w.cell? ⟨b,off,none⟩=some v) (o:Obj):(w.alloc o).cell? ⟨b,off,none⟩=some v:=
 (World.cell?_of_block (w:=w) (a:=⟨b,off,none⟩) (Below.heap_alloc w o b (qw h))).trans h
def EF (w:jG9) (k:Nat) (v:jGk) (n:Nat) (xs:List jGk):Prop:=
 xs.length=n*k/\∃ a cap,v=.slice a n cap/\n<=cap/\cap<=maxLen/\(n=0\/∃ b off,a=some ⟨b,off,none⟩/\∀ j u,xs[j]?=some u->w.cell? ⟨b,off+j,none⟩=some u)
theorem EF.qJ {w:jG9} {B:Nat} {e:TypeId} {k:Nat} {v:jGk} {n:Nat} {xs:List jGk} (h:w.ownsRow B e k v n xs):EF w k v n xs:=by
 obtain ⟨h1,h2⟩:=h;refine ⟨h1,?_⟩;rcases h2 with ⟨rfl,rfl⟩ | ⟨g,cap,cur,rfl,hg,hb,hn,hm,hcs,hx⟩
 ·exact ⟨none,0,rfl,jD8 _,jE3 _,.inl rfl⟩
 ·refine ⟨_,cap,rfl,hn,hm,.inr ⟨g,0,rfl,fun j u hu=>?_⟩⟩;have hown:w.ownsRow B e k (.slice (some ⟨g,0,none⟩) n cap) n xs:=⟨h1,.inr ⟨g,cap,cur,rfl,hg,hb,hn,hm,hcs,hx⟩⟩;have:=hown.cells rfl j u hu;rw [Nat.zero_add];rw [<- this];congr 1;unfold Addr.add;split<;>simp_all
open Go.RowKit
inductive D where
 | int (k:IntKind) (n:Int)
 | bool (b:Bool)
 | str (s:ByteArray)
 | st (fs:List D)
 | sl (k:Nat) (l:List D)
mutual
def Rd (ok:Nat->Prop) (w:jG9):D->List jGk->Prop
 | .int k n,cs=>cs=[.int k n]
 | .bool b,cs=>cs=[.bool b]
 | .str s,cs=>cs=[.string s]
 | .st fs,cs=>∃ rows,aR ok w fs rows/\cs=rows.flatten
 | .sl k l,cs=>∃ a cap rows,cs=[.slice a l.length cap]/\l.length<=cap/\cap<=maxLen/\aR ok w l rows/\(∀ r∈rows,r.length=k) /\
   (l.length=0\/∃ b off,a=some ⟨b,off,none⟩/\ok b/\b<w.heap.size/\∀ j u,rows.flatten[j]?=some u->w.cell? ⟨b,off+j,none⟩=some u)
def aR (ok:Nat->Prop) (w:jG9):List D->List (List jGk)->Prop
 | [],rows=>rows=[]
 | d::ds,rows=>∃ r rs,rows=r::rs/\Rd ok w d r/\aR ok w ds rs
end
theorem jq {w w':jG9} {b:Nat} (h:w'.heap[b]?=w.heap[b]?) (o:Nat):w'.cell? ⟨b,o,none⟩=w.cell? ⟨b,o,none⟩:=World.cell?_of_block (a:=⟨b,o,none⟩) h
theorem L8 {w w':jG9} {b:Nat} (h:w'.heap[b]?=w.heap[b]?) (hb:b<w.heap.size):b<w'.heap.size:=by rw [Array.getElem?_eq_getElem hb] at h;exact (Array.getElem?_eq_some_iff.1 h).1
theorem q0w {w w':jG9} {row:Option Nat} {b o:Nat} {v:jGk} (hg:w.grownBy w' row) (hc:w.cell? ⟨b,o,none⟩=some v) (hne:row≠some b):w'.cell? ⟨b,o,none⟩=some v:=by rw [jq (hg.block b (qw hc) (fun e=>hne e.symm))];exact hc
theorem jf3{P:Prop}(h:P:=by
 have e:((⟨w.heap.size,0,none⟩:Addr).add j)=⟨w.heap.size,j,none⟩:=by unfold Addr.add;split<;>simp_all
 rwa [e] at this):P:=h
theorem F5 (w:jG9) (cs:List jGk) (T:TypeId) (j:Nat) (u:jGk) (h:cs[j]?=some u):(w.alloc (.cells cs.toArray T)).cell? ⟨w.heap.size,j,none⟩=some u:=by have:=Gh w cs T j u h;exact jf3
theorem own_ne {w:jG9} {B:Nat} {e:TypeId} {k:Nat} {v:jGk} {n:Nat} {xs:List jGk} {b:Nat} (h:w.ownsRow B e k v n xs) (hb:w.heap.size<=b):v.ownBlock≠some b:=fun e'=>by
 have:=(h.lt b e').2;omega
def vM (ok ok':Nat->Prop) (w w':jG9):Prop:=∀ b,ok b->b<w.heap.size->ok' b/\w'.heap[b]?=w.heap[b]?
mutual
theorem Rd.keep {ok ok':Nat->Prop} {w w':jG9} (hs:vM ok ok' w w'):∀ (d:D) (cs:List jGk),Rd ok w d cs->Rd ok' w' d cs
 | .int _ _,_,h=>by unfold Rd at h ⊢;exact h
 | .bool _,_,h=>by unfold Rd at h ⊢;exact h
 | .str _,_,h=>by unfold Rd at h ⊢;exact h
 | .st fs,_,h=>by
  unfold Rd at h ⊢;obtain ⟨rows,hr,hc⟩:=h;exact ⟨rows,aR.keep hs fs rows hr,hc⟩
 | .sl k l,_,h=>by
  unfold Rd at h ⊢;obtain ⟨a,cap,rows,h1,h2,h3,h4,h5,h6⟩:=h;have h4':=aR.keep hs l rows h4;refine ⟨a,cap,rows,h1,h2,h3,h4',h5,?_⟩;rcases h6 with h6 | ⟨b,off,h7,h8,hb,h9⟩
  ·exact .inl h6
  ·obtain ⟨k1,k2⟩:=hs b h8 hb;refine .inr ⟨b,off,h7,k1,L8 k2 hb,fun j u hu=>by rw [jq k2];exact h9 j u hu⟩
theorem aR.keep {ok ok':Nat->Prop} {w w':jG9} (hs:vM ok ok' w w'):∀ (l:List D) (rows:List (List jGk)),aR ok w l rows->aR ok' w' l rows
 | [],_,h=>by unfold aR at h ⊢;exact h
 | d::ds,_,h=>by
  unfold aR at h ⊢;obtain ⟨r,rs,h1,h2,h3⟩:=h;exact ⟨r,rs,h1,Rd.keep hs d r h2,aR.keep hs ds rs h3⟩
end
theorem aR.len {ok:Nat->Prop} {w:jG9}:∀ {l:List D} {rows:List (List jGk)},aR ok w l rows->rows.length=l.length
 | [],_,h=>by unfold aR at h;simp [h]
 | d::ds,_,h=>by
  unfold aR at h;obtain ⟨r,rs,rfl,_,h3⟩:=h;simp [aR.len h3]
theorem aR.get {ok:Nat->Prop} {w:jG9}:∀ {l:List D} {rows:List (List jGk)},aR ok w l rows->∀ (i:Nat) (d:D),l[i]?=some d->∃ r,rows[i]?=some r/\Rd ok w d r
 | [],_,h,i,d,hd=>by simp at hd
 | x::xs,_,h,i,d,hd=>by
  unfold aR at h;obtain ⟨r,rs,rfl,h2,h3⟩:=h;cases i with
  | zero=>simp at hd;subst hd;exact ⟨r,rfl,h2⟩
  | succ i=>simp at hd;obtain ⟨r',h4,h5⟩:=aR.get h3 i d hd;exact ⟨r',by simpa using h4,h5⟩
theorem aR.app {ok:Nat->Prop} {w:jG9}:∀ {l m:List D} {rows rows':List (List jGk)},aR ok w l rows->aR ok w m rows'->aR ok w (l++m) (rows++rows')
 | [],_,_,_,h,h'=>by unfold aR at h;subst h;exact h'
 | d::ds,_,_,_,h,h'=>by
  unfold aR at h;obtain ⟨r,rs,rfl,h2,h3⟩:=h;show aR ok w (d::(ds++_)) _;unfold aR;exact ⟨r,rs++_,rfl,h2,aR.app h3 h'⟩
theorem aR.one {ok:Nat->Prop} {w:jG9} {d:D} {r:List jGk} (h:Rd ok w d r):aR ok w [d] [r]:=by unfold aR;exact ⟨r,[],rfl,h,by unfold aR;rfl⟩
theorem aR.none {ok:Nat->Prop} {w:jG9}:aR ok w [] []:=by unfold aR;rfl
theorem aR.cons {ok:Nat->Prop} {w:jG9} {d:D} {ds:List D} {r:List jGk} {rs:List (List jGk)} (h:Rd ok w d r) (hs:aR ok w ds rs):aR ok w (d::ds) (r::rs):=by unfold aR;exact ⟨r,rs,rfl,h,hs⟩
theorem kZ (k:Nat):∀ (rows:List (List jGk)),(∀ r∈rows,r.length=k)->rows.flatten.length=rows.length*k
 | [],_=>by simp
 | r::rs,h=>by
  rw [List.flatten_cons,List.length_append,kZ k rs (fun x hx=>h x (by simp [hx])),h r (by simp),List.length_cons,Nat.add_mul];omega
theorem Yo (k:Nat):∀ (rows:List (List jGk)),(∀ r∈rows,r.length=k)->∀ (i j:Nat) (r:List jGk) (u:jGk),rows[i]?=some r->r[j]?=some u->rows.flatten[i*k+j]?=some u
 | [],_,i,j,r,u,h1,_=>by simp at h1
 | x::xs,h,i,j,r,u,h1,h2=>by
  have hx:=h x (by simp);rw [List.flatten_cons];cases i with
  | zero=>
   simp at h1;subst h1;have hj:j<x.length:=(List.getElem?_eq_some_iff.1 h2).1;rw [List.getElem?_append_left (by omega)];simpa using h2
  | succ i=>
   rw [List.getElem?_append_right (by rw [hx,Nat.add_mul];omega)];have e:(i+1)*k+j-x.length=i*k+j:=by rw [hx,Nat.add_mul];omega
   rw [e];exact Yo k xs (fun y hy=>h y (by simp [hy])) i j r u (by simpa using h1) h2
structure qI (ok:Nat->Prop) (w:jG9) (k:Nat) (l:List D) (a:Option Addr) (cap:Nat):Prop where
 le:l.length<=cap
 max:cap<=maxLen
 at_:0<l.length->∃ b off,a=some ⟨b,off,none⟩/\ok b/\b<w.heap.size/\∀ i d,l[i]?=some d->∃ r,Rd ok w d r/\r.length=k/\∀ j u,r[j]?=some u->w.cell? ⟨b,off+(i*k+j),none⟩=some u
theorem Rd.ay {ok:Nat->Prop} {w:jG9} {k:Nat} {l:List D} {cs:List jGk} (h:Rd ok w (.sl k l) cs):∃ a cap,cs=[.slice a l.length cap]/\qI ok w k l a cap:=by
 unfold Rd at h;obtain ⟨a,cap,rows,h1,h2,h3,h4,h5,h6⟩:=h;refine ⟨a,cap,h1,h2,h3,fun hp=>?_⟩;rcases h6 with h6 | ⟨b,off,h7,h8,hb,h9⟩
 ·omega
 ·refine ⟨b,off,h7,h8,hb,fun i d hd=>?_⟩;obtain ⟨r,hr,hrd⟩:=h4.get i d hd;exact ⟨r,hrd,h5 r (List.mem_of_getElem? hr),fun j u hu=>h9 _ u (Yo k rows h5 i j r u hr hu)⟩
theorem Rd.mg {ok:Nat->Prop} {w:jG9} {fs:List D} {cs:List jGk} (h:Rd ok w (.st fs) cs):∃ rows,aR ok w fs rows/\cs=rows.flatten:=by unfold Rd at h;exact h
theorem Rd.Dp {ok:Nat->Prop} {w:jG9} {fs:List D} {rows:List (List jGk)} (h:aR ok w fs rows):Rd ok w (.st fs) rows.flatten:=by unfold Rd;exact ⟨rows,h,rfl⟩
theorem aR.aI {ok:Nat->Prop} {w:jG9} {d:D} {ds:List D} {rows:List (List jGk)} (h:aR ok w (d::ds) rows):∃ r rs,rows=r::rs/\Rd ok w d r/\aR ok w ds rs:=by unfold aR at h;exact h
theorem aR.dV {ok:Nat->Prop} {w:jG9} {rows:List (List jGk)} (h:aR ok w [] rows):rows=[]:=by unfold aR at h;exact h
theorem Rd.sW {ok:Nat->Prop} {w:jG9} {k:IntKind} {n:Int} {cs:List jGk} (h:Rd ok w (.int k n) cs):cs=[.int k n]:=by unfold Rd at h;exact h
theorem Rd.Dm {ok:Nat->Prop} {w:jG9} {b:Bool} {cs:List jGk} (h:Rd ok w (.bool b) cs):cs=[.bool b]:=by unfold Rd at h;exact h
theorem Rd.bM {ok:Nat->Prop} {w:jG9} {s:ByteArray} {cs:List jGk} (h:Rd ok w (.str s) cs):cs=[.string s]:=by unfold Rd at h;exact h
theorem Rd.Lh (ok:Nat->Prop) (w:jG9) (k:IntKind) (n:Int):Rd ok w (.int k n) [.int k n]:=by unfold Rd;rfl
theorem Rd.Yx (ok:Nat->Prop) (w:jG9) (b:Bool):Rd ok w (.bool b) [.bool b]:=by unfold Rd;rfl
theorem Rd.dW (ok:Nat->Prop) (w:jG9) (s:ByteArray):Rd ok w (.str s) [.string s]:=by unfold Rd;rfl
theorem Rd.aC (ok:Nat->Prop) (w:jG9) (k:Nat):Rd ok w (.sl k []) [.slice none 0 0]:=by unfold Rd;exact ⟨none,0,[],rfl,jD8 _,jE3 _,aR.none,by simp,.inl rfl⟩
theorem Rd.fG {ok:Nat->Prop} {w:jG9} {B:Nat} {e:TypeId} {k:Nat} {l:List D} {v:jGk} {rows:List (List jGk)} (ho:w.ownsRow B e k v l.length rows.flatten) (h:aR ok w l rows) (hk:∀ r∈rows,r.length=k) (hok:∀ g,v.ownBlock=some g->ok g):Rd ok w (.sl k l) [v]:=by
 have hlt:=ho.lt;have hcl:∀ g cap,v=.slice (some ⟨g,0,none⟩) l.length cap->∀ j u,rows.flatten[j]?=some u->w.cell? ⟨g,0+j,none⟩=some u:=by rintro g cap rfl j u hu;rw [Nat.zero_add,<- ho.cells rfl j u hu];congr 1;unfold Addr.add;split<;>simp_all
 obtain ⟨h1,h2⟩:=ho;rcases h2 with ⟨rfl,hx⟩ | ⟨g,cap,cur,rfl,hg,hb,hn,hm,hcs,hx⟩
 ·unfold Rd;exact ⟨none,0,rows,by rw [hx],by omega,jE3 _,h,hk,.inl hx⟩
 ·unfold Rd;exact ⟨_,cap,rows,rfl,hn,hm,h,hk,.inr ⟨g,0,rfl,hok g rfl,(hlt g rfl).2,hcl g cap rfl⟩⟩
def jZ (l:List ByteArray):D:=.sl 1 (l.map D.str)
theorem aR.strs {ok:Nat->Prop} {w:jG9}:∀ (l:List ByteArray),aR ok w (l.map D.str) (l.map fun s=>[Value.string s])
 | []=>aR.none
 | s::l=>aR.cons (Rd.dW ok w s) (aR.strs l)
theorem oQ:∀ (l:List ByteArray),(l.map fun s=>[Value.string s]).flatten=l.map Value.string
 | []=>rfl
 | s::l=>by simp [List.flatten_cons,oQ l]
theorem aR.oP {ok:Nat->Prop} {w:jG9}:∀ (l:List ByteArray) (rows:List (List jGk)),aR ok w (l.map D.str) rows->rows=l.map fun s=>[Value.string s]
 | [],_,h=>by exact h.dV
 | s::l,_,h=>by
  obtain ⟨r,rs,rfl,h1,h2⟩:=h.aI;rw [h1.bM,aR.oP l rs h2];rfl
theorem Rd.Sw {ok:Nat->Prop} {w:jG9} {B:Nat} {e:TypeId} {l:List ByteArray} {v:jGk} (ho:w.ownsRow B e 1 v l.length (l.map Value.string)) (hok:∀ g,v.ownBlock=some g->ok g):Rd ok w (jZ l) [v]:=by refine Rd.fG (rows:=l.map fun s=>[Value.string s]) (B:=B) (e:=e) ?_ (aR.strs l) (by simp) hok;rw [oQ,List.length_map];exact ho
open Go.RowKit
structure Pr where
 key:ByteArray
 val:ByteArray
deriving DecidableEq
structure Ci where
 key:ByteArray
 pre:ByteArray
 suf:ByteArray
 bare:Bool
deriving DecidableEq
structure At where
 id:ByteArray
 cls:List ByteArray
 aD:List Pr
deriving DecidableEq
inductive aj where
 | mk (kind:Int) (text dest title:ByteArray) (at_:At) (args:List ByteArray) (fu:List Ci) (kids:List aj)
inductive ah where
 | mk (kind level:Int) (info text dest title:ByteArray) (at_:At) (line:List aj) (kids:List ah)
def Pr.d (p:Pr):D:=.st [.str p.key,.str p.val]
def Ci.d (c:Ci):D:=.st [.str c.key,.str c.pre,.str c.suf,.bool c.bare]
def At.ds (a:At):List D:=[.str a.id,jZ a.cls,.sl 2 (a.aD.map Pr.d)]
mutual
def aj.d:aj->D
 | .mk k t d ti a ar ci ks=>.st [.int .i64 k,.str t,.str d,.str ti,.st a.ds,jZ ar,.sl 4 (ci.map Ci.d),.sl 10 (aj.dl ks)]
def aj.dl:List aj->List D
 | []=>[]
 | x::l=>x.d::aj.dl l
end
theorem aj.jJ:∀ (l:List aj),aj.dl l=l.map aj.d
 | []=>by unfold aj.dl;rfl
 | x::l=>by rw [aj.dl,aj.jJ l];rfl
mutual
def ah.d:ah->D
 | .mk k lv i t d ti a li ks=>.st [.int .i64 k,.int .i64 lv,.str i,.str t,.str d,.str ti,.st a.ds,.sl 10 (li.map aj.d),.sl 11 (ah.dl ks)]
def ah.dl:List ah->List D
 | []=>[]
 | x::l=>x.d::ah.dl l
end
theorem ah.jJ:∀ (l:List ah),ah.dl l=l.map ah.d
 | []=>by unfold ah.dl;rfl
 | x::l=>by rw [ah.dl,ah.jJ l];rfl
def bG (l:List aj):D:=.sl 10 (l.map aj.d)
def nN (l:List ah):D:=.sl 11 (l.map ah.d)
def q32 (l:List Pr):D:=.sl 2 (l.map Pr.d)
def Oa (l:List Ci):D:=.sl 4 (l.map Ci.d)
variable {ok:Nat->Prop} {w:jG9}
theorem Pr.open_ {p:Pr} {cs:List jGk} (h:Rd ok w p.d cs):cs=[.string p.key,.string p.val]:=by unfold Pr.d at h;obtain ⟨_,g0,rfl⟩:=h.mg;obtain ⟨_,_,rfl,h1,g1⟩:=g0.aI;obtain ⟨_,_,rfl,h2,g2⟩:=g1.aI;obtain rfl:=g2.dV;obtain rfl:=h1.bM;obtain rfl:=h2.bM;rfl
theorem Ci.open_ {p:Ci} {cs:List jGk} (h:Rd ok w p.d cs):cs=[.string p.key,.string p.pre,.string p.suf,.bool p.bare]:=by unfold Ci.d at h;obtain ⟨_,g0,rfl⟩:=h.mg;obtain ⟨_,_,rfl,h1,g1⟩:=g0.aI;obtain ⟨_,_,rfl,h2,g2⟩:=g1.aI;obtain ⟨_,_,rfl,h3,g3⟩:=g2.aI;obtain ⟨_,_,rfl,h4,g4⟩:=g3.aI;obtain rfl:=g4.dV;obtain rfl:=h1.bM;obtain rfl:=h2.bM;obtain rfl:=h3.bM;obtain rfl:=h4.Dm;rfl
theorem Pr.dJ (ok:Nat->Prop) (w:jG9) (p:Pr):Rd ok w p.d [.string p.key,.string p.val]:=
 Rd.Dp (rows:=[[.string p.key],[.string p.val]]) (.cons (Rd.dW _ _ _) (.cons (Rd.dW _ _ _) .none))
theorem Ci.dJ (ok:Nat->Prop) (w:jG9) (p:Ci):Rd ok w p.d [.string p.key,.string p.pre,.string p.suf,.bool p.bare]:=
 Rd.Dp (rows:=[[.string p.key],[.string p.pre],[.string p.suf],[.bool p.bare]]) (.cons (Rd.dW _ _ _) (.cons (Rd.dW _ _ _) (.cons (Rd.dW _ _ _) (.cons (Rd.Yx _ _ _) .none))))
theorem Rd.rJ {k:Nat} {l:List D} {cs:List jGk} (h:Rd ok w (.sl k l) cs):∃ v,cs=[v]/\Rd ok w (.sl k l) [v]:=by obtain ⟨a,cap,rfl,_⟩:=h.ay;exact ⟨_,rfl,h⟩
structure AtR (ok:Nat->Prop) (w:jG9) (a:At) (vc vp:jGk):Prop where
 cls:Rd ok w (jZ a.cls) [vc]
 aD:Rd ok w (q32 a.aD) [vp]
theorem At.open_ {a:At} {cs:List jGk} (h:Rd ok w (.st a.ds) cs):∃ vc vp,cs=[.string a.id,vc,vp]/\AtR ok w a vc vp:=by unfold At.ds at h;obtain ⟨_,g0,rfl⟩:=h.mg;obtain ⟨_,_,rfl,h1,g1⟩:=g0.aI;obtain ⟨_,_,rfl,h2,g2⟩:=g1.aI;obtain ⟨_,_,rfl,h3,g3⟩:=g2.aI;obtain ⟨vc,rfl,h2⟩:=Rd.rJ h2;obtain ⟨vp,rfl,h3⟩:=Rd.rJ h3;obtain rfl:=g3.dV;obtain rfl:=h1.bM;exact ⟨vc,vp,rfl,h2,h3⟩
theorem At.dJ {a:At} {vc vp:jGk} (h:AtR ok w a vc vp):Rd ok w (.st a.ds) [.string a.id,vc,vp]:=
 Rd.Dp (rows:=[[.string a.id],[vc],[vp]]) (.cons (Rd.dW _ _ _) (.cons h.cls (.cons h.aD .none)))
structure qV (ok:Nat->Prop) (w:jG9) (at_:At) (args:List ByteArray) (fu:List Ci) (kids:List aj) (vc vp va vi vk:jGk):Prop where
 at_:AtR ok w at_ vc vp
 args:Rd ok w (jZ args) [va]
 fu:Rd ok w (Oa fu) [vi]
 kids:Rd ok w (bG kids) [vk]
theorem aj.open_ {k:Int} {t d ti:ByteArray} {a:At} {ar:List ByteArray} {ci:List Ci} {ks:List aj} {cs:List jGk} (h:Rd ok w (aj.mk k t d ti a ar ci ks).d cs) : ∃ vc vp va vi vk,cs=[.int .i64 k,.string t,.string d,.string ti,.string a.id,vc,vp,va,vi,vk]/\qV ok w a ar ci ks vc vp va vi vk:=by unfold aj.d at h;obtain ⟨_,g0,rfl⟩:=h.mg;obtain ⟨_,_,rfl,h1,g1⟩:=g0.aI;obtain ⟨_,_,rfl,h2,g2⟩:=g1.aI;obtain ⟨_,_,rfl,h3,g3⟩:=g2.aI;obtain ⟨_,_,rfl,h4,g4⟩:=g3.aI;obtain ⟨_,_,rfl,h5,g5⟩:=g4.aI;obtain ⟨_,_,rfl,h6,g6⟩:=g5.aI;obtain ⟨_,_,rfl,h7,g7⟩:=g6.aI;obtain ⟨_,_,rfl,h8,g8⟩:=g7.aI;obtain ⟨vc,vp,rfl,ha⟩:=At.open_ h5;obtain ⟨va,rfl,h6⟩:=Rd.rJ h6;obtain ⟨vi,rfl,h7⟩:=Rd.rJ h7;obtain ⟨vk,rfl,h8⟩:=Rd.rJ h8;rw [aj.jJ] at h8;obtain rfl:=g8.dV;obtain rfl:=h1.sW;obtain rfl:=h2.bM;obtain rfl:=h3.bM;obtain rfl:=h4.bM;exact ⟨vc,vp,va,vi,vk,rfl,ha,h6,h7,h8⟩
theorem aj.dJ (k:Int) (t d ti:ByteArray) {a:At} {ar:List ByteArray} {ci:List Ci} {ks:List aj} {vc vp va vi vk:jGk} (h:qV ok w a ar ci ks vc vp va vi vk) : Rd ok w (aj.mk k t d ti a ar ci ks).d [.int .i64 k,.string t,.string d,.string ti,.string a.id,vc,vp,va,vi,vk]:=by
 unfold aj.d;rw [aj.jJ];exact Rd.Dp (rows:=[[.int .i64 k],[.string t],[.string d],[.string ti],[.string a.id,vc,vp],[va],[vi],[vk]])
  (.cons (Rd.Lh _ _ _ _) (.cons (Rd.dW _ _ _) (.cons (Rd.dW _ _ _) (.cons (Rd.dW _ _ _) (.cons (At.dJ h.at_) (.cons h.args (.cons h.fu (.cons h.kids .none))))))))
structure eP (ok:Nat->Prop) (w:jG9) (at_:At) (line:List aj) (kids:List ah) (vc vp vl vk:jGk):Prop where
 at_:AtR ok w at_ vc vp
 line:Rd ok w (bG line) [vl]
 kids:Rd ok w (nN kids) [vk]
theorem ah.open_ {k lv:Int} {i t d ti:ByteArray} {a:At} {li:List aj} {ks:List ah} {cs:List jGk} (h:Rd ok w (ah.mk k lv i t d ti a li ks).d cs) : ∃ vc vp vl vk,cs=[.int .i64 k,.int .i64 lv,.string i,.string t,.string d,.string ti,.string a.id,vc,vp,vl,vk]/\eP ok w a li ks vc vp vl vk:=by unfold ah.d at h;obtain ⟨_,g0,rfl⟩:=h.mg;obtain ⟨_,_,rfl,h1,g1⟩:=g0.aI;obtain ⟨_,_,rfl,h2,g2⟩:=g1.aI;obtain ⟨_,_,rfl,h3,g3⟩:=g2.aI;obtain ⟨_,_,rfl,h4,g4⟩:=g3.aI;obtain ⟨_,_,rfl,h5,g5⟩:=g4.aI;obtain ⟨_,_,rfl,h6,g6⟩:=g5.aI;obtain ⟨_,_,rfl,h7,g7⟩:=g6.aI;obtain ⟨_,_,rfl,h8,g8⟩:=g7.aI;obtain ⟨_,_,rfl,h9,g9⟩:=g8.aI;obtain ⟨vc,vp,rfl,ha⟩:=At.open_ h7;obtain ⟨vl,rfl,h8⟩:=Rd.rJ h8;obtain ⟨vk,rfl,h9⟩:=Rd.rJ h9;rw [ah.jJ] at h9;obtain rfl:=g9.dV;obtain rfl:=h1.sW;obtain rfl:=h2.sW;obtain rfl:=h3.bM;obtain rfl:=h4.bM;obtain rfl:=h5.bM;obtain rfl:=h6.bM;exact ⟨vc,vp,vl,vk,rfl,ha,h8,h9⟩
theorem ah.dJ (k lv:Int) (i t d ti:ByteArray) {a:At} {li:List aj} {ks:List ah} {vc vp vl vk:jGk} (h:eP ok w a li ks vc vp vl vk) : Rd ok w (ah.mk k lv i t d ti a li ks).d [.int .i64 k,.int .i64 lv,.string i,.string t,.string d,.string ti,.string a.id,vc,vp,vl,vk]:=by
 unfold ah.d;rw [ah.jJ];exact Rd.Dp (rows:=[[.int .i64 k],[.int .i64 lv],[.string i],[.string t],[.string d],[.string ti],[.string a.id,vc,vp],[vl],[vk]])
  (.cons (Rd.Lh _ _ _ _) (.cons (Rd.Lh _ _ _ _) (.cons (Rd.dW _ _ _) (.cons (Rd.dW _ _ _) (.cons (Rd.dW _ _ _) (.cons (Rd.dW _ _ _) (.cons (At.dJ h.at_) (.cons h.line (.cons h.kids .none)))))))))
open Go.RowKit
mutual
def aj.sz:aj->Nat
 | .mk _ _ _ _ _ _ _ ks=>1+aj.aY ks
def aj.aY:List aj->Nat
 | []=>0
 | x::l=>x.sz+aj.aY l
end
mutual
def ah.sz:ah->Nat
 | .mk _ _ _ _ _ _ _ _ ks=>1+ah.aY ks
def ah.aY:List ah->Nat
 | []=>0
 | x::l=>x.sz+ah.aY l
end
theorem aj.bE:∀ (l:List aj) (k:Nat) (x:aj),l[k]?=some x->x.sz<=aj.aY l
 | [],_,_,h=>by simp at h
 | y::l,0,x,h=>by simp at h;subst h;rw [aj.aY];omega
 | y::l,k+1,x,h=>by
  have:=aj.bE l k x (by simpa using h);rw [aj.aY];omega
theorem ah.bE:∀ (l:List ah) (k:Nat) (x:ah),l[k]?=some x->x.sz<=ah.aY l
 | [],_,_,h=>by simp at h
 | y::l,0,x,h=>by simp at h;subst h;rw [ah.aY];omega
 | y::l,k+1,x,h=>by
  have:=ah.bE l k x (by simpa using h);rw [ah.aY];omega
mutual
def aj.plain:aj->List UInt8
 | .mk k t d _ _ _ _ ks=>
  if k=1\/k=4\/k=5 then t.data.toList else if k=2\/k=3 then [32]
  else if k=6\/k=7\/k=8\/k=9\/k=10\/k=11 then aj.aG ks else if k=16 then d.data.toList else []
def aj.aG:List aj->List UInt8
 | []=>[]
 | x::l=>x.plain++aj.aG l
end
theorem aj.Ag (l m:List aj):aj.aG (l++m)=aj.aG l++aj.aG m:=by
 induction l with
 | nil=>rw [aj.aG];rfl
 | cons x l ih=>rw [List.cons_append,aj.aG,aj.aG,ih,List.append_assoc]
theorem aj.nD (l:List aj) (k:Nat) (x:aj) (h:l[k]?=some x):aj.aG (l.take (k+1))=aj.aG (l.take k)++x.plain:=by rw [List.take_add_one,h,aj.Ag];simp [aj.aG]
theorem aj.Pq (l:List aj) (k:Nat):(aj.aG (l.take k)).length<=(aj.aG l).length:=by have h:l=l.take k++l.drop k:=(List.take_append_drop k l).symm;have:=congrArg (fun l=>(aj.aG l).length) h;rw [aj.Ag] at this;simp at this;omega
theorem aj.FQ (l:List aj) (k:Nat) (x:aj) (h:l[k]?=some x):(aj.aG (l.take k)).length+x.plain.length<=(aj.aG l).length:=by have h1:=aj.Pq l (k+1);rw [aj.nD l k x h,List.length_append] at h1;exact h1
variable {ok:Nat->Prop} {w:jG9}
structure gy (w:jG9) (b o:Nat) (k:Int) (t d ti:ByteArray) (id:ByteArray) (vc vp va vi vk:jGk):Prop where
 c0:w.cell? ⟨b,o,none⟩=some (.int .i64 k)
 c1:w.cell? ⟨b,o+1,none⟩=some (.string t)
 c2:w.cell? ⟨b,o+2,none⟩=some (.string d)
 c3:w.cell? ⟨b,o+3,none⟩=some (.string ti)
 c4:w.cell? ⟨b,o+4,none⟩=some (.string id)
 c5:w.cell? ⟨b,o+5,none⟩=some vc
 c6:w.cell? ⟨b,o+6,none⟩=some vp
 c7:w.cell? ⟨b,o+7,none⟩=some va
 c8:w.cell? ⟨b,o+8,none⟩=some vi
 c9:w.cell? ⟨b,o+9,none⟩=some vk
theorem gy.of {w:jG9} {b o:Nat} {cs:List jGk} {k:Int} {t d ti id:ByteArray} {vc vp va vi vk:jGk} (hcs:cs=[.int .i64 k,.string t,.string d,.string ti,.string id,vc,vp,va,vi,vk]) (h:∀ j u,cs[j]?=some u->w.cell? ⟨b,o+j,none⟩=some u):gy w b o k t d ti id vc vp va vi vk:=by subst hcs;exact ⟨h 0 _ rfl,h 1 _ rfl,h 2 _ rfl,h 3 _ rfl,h 4 _ rfl,h 5 _ rfl,h 6 _ rfl,h 7 _ rfl,h 8 _ rfl,h 9 _ rfl⟩
theorem H6{P Q:Prop}(q:Q)(h:Nonempty Q->P:=by
 intro qQ;have hlt:k<l.length:=(List.getElem?_eq_some_iff.1 hk).1;obtain ⟨b,off,ha,hok,hb,hc⟩:=h.at_ (by simpa using Nat.lt_of_le_of_lt (Nat.zero_le _) hlt)
 obtain ⟨r,hr,hl,hcell⟩:=hc k _ (by rw [List.getElem?_map,hk];rfl);revert hlt b off ha hok hb hc r hr hl hcell;exact qQ.elim fun x=>x):P:=h ⟨q⟩
theorem L9 {l:List aj} {a:Option Addr} {cap:Nat} (h:qI ok w 10 (l.map aj.d) a cap) {k:Nat} {kd:Int} {t d ti:ByteArray} {at_:At} {ar:List ByteArray} {ci:List Ci} {ks:List aj} (hk:l[k]?=some (.mk kd t d ti at_ ar ci ks)) : ∃ b off vc vp va vi vk,a=some ⟨b,off,none⟩/\ok b/\b<w.heap.size/\gy w b (off+k*10) kd t d ti at_.id vc vp va vi vk/\qV ok w at_ ar ci ks vc vp va vi vk:=by refine H6 ?_;intro hlt b off ha hok hb hc r hr hl hcell;obtain ⟨vc,vp,va,vi,vk,hcs,hR⟩:=aj.open_ hr;exact ⟨b,off,vc,vp,va,vi,vk,ha,hok,hb,gy.of hcs (fun j u hu=>by rw [Nat.add_assoc];exact hcell j u hu),hR⟩
structure dh (w:World) (b o:Nat) (k lv:Int) (i t d ti:ByteArray) (id:ByteArray) (vc vp vl vk:Value):Prop where
 c0:w.cell? ⟨b,o,none⟩=some (.int .i64 k)
 c1:w.cell? ⟨b,o+1,none⟩=some (.int .i64 lv)
 c2:w.cell? ⟨b,o+2,none⟩=some (.string i)
 c3:w.cell? ⟨b,o+3,none⟩=some (.string t)
 c4:w.cell? ⟨b,o+4,none⟩=some (.string d)
 c5:w.cell? ⟨b,o+5,none⟩=some (.string ti)
 c6:w.cell? ⟨b,o+6,none⟩=some (.string id)
 c7:w.cell? ⟨b,o+7,none⟩=some vc
 c8:w.cell? ⟨b,o+8,none⟩=some vp
 c9:w.cell? ⟨b,o+9,none⟩=some vl
 c10:w.cell? ⟨b,o+10,none⟩=some vk
theorem dh.of {w:World} {b o:Nat} {cs:List Value} {k lv:Int} {i t d ti id:ByteArray} {vc vp vl vk:Value} (hcs:cs=[.int .i64 k,.int .i64 lv,.string i,.string t,.string d,.string ti,.string id,vc,vp,vl,vk]) (h:∀ j u,cs[j]?=some u->w.cell? ⟨b,o+j,none⟩=some u):dh w b o k lv i t d ti id vc vp vl vk:=by subst hcs;exact ⟨h 0 _ rfl,h 1 _ rfl,h 2 _ rfl,h 3 _ rfl,h 4 _ rfl,h 5 _ rfl,h 6 _ rfl,h 7 _ rfl,h 8 _ rfl,h 9 _ rfl,h 10 _ rfl⟩
theorem Gr {l:List ah} {a:Option Addr} {cap:Nat} (h:qI ok w 11 (l.map ah.d) a cap) {k:Nat} {kd lv:Int} {i t d ti:ByteArray} {at_:At} {li:List aj} {ks:List ah} (hk:l[k]?=some (.mk kd lv i t d ti at_ li ks)) : ∃ b off vc vp vl vk,a=some ⟨b,off,none⟩/\ok b/\b<w.heap.size/\dh w b (off+k*11) kd lv i t d ti at_.id vc vp vl vk/\eP ok w at_ li ks vc vp vl vk:=by refine H6 ?_;intro hlt b off ha hok hb hc r hr hl hcell;obtain ⟨vc,vp,vl,vk,hcs,hR⟩:=ah.open_ hr;exact ⟨b,off,vc,vp,vl,vk,ha,hok,hb,dh.of hcs (fun j u hu=>by rw [Nat.add_assoc];exact hcell j u hu),hR⟩
open Go.RowKit
set_option linter.unusedVariables false
set_option linter.unusedSimpArgs false
theorem vw (k:Int):(k=1\/k=4\/k=5)\/(k=2\/k=3)\/(k=6\/k=7\/k=8\/k=9\/k=10\/k=11)\/k=16\/(k≠1/\k≠4/\k≠5/\k≠2/\k≠3/\k≠6/\k≠7/\k≠8/\k≠9/\k≠10/\k≠11/\k≠16):=by omega
theorem Nz (a b:List UInt8):(⟨a.toArray⟩:ByteArray)++⟨b.toArray⟩=⟨(a++b).toArray⟩:=by apply ByteArray.ext;simp
theorem Io (a:List UInt8) (x:ByteArray):(⟨a.toArray⟩:ByteArray)++x=⟨(a++x.data.toList).toArray⟩:=by apply ByteArray.ext;simp
open Go.RowKit
theorem wF {a b:Bool} (h:a=b):Ending.returned (.bool a)=.returned (.bool b):=by rw [h]
theorem Jt {a b:Int} (h:a=b):Ending.returned (.int .i64 a)=.returned (.int .i64 b):=by rw [h]
theorem jf4{P:Prop}(h:P:=by
 go_wp2;all_goals
  go_ret;refine ⟨wF ?_,rfl⟩;unfold YQ
  (try simp only [beq_iff_eq,beq_eq_false_iff_ne,ne_eq] at *)
  rw [Bool.eq_iff_iff];simp;omega):P:=h
theorem FJ (c:Nat) (w:jG9) (hc:c<=1114111) : Calls Tryz.prog 234 #[.int .i64 (c:Int)] w fun e w'=>e=.returned (.bool (YQ c))/\w=w':=by go_enter Tryz.func234,Tryz.ntmps234;exact jf4
theorem FR (c:Nat) (w:jG9) (hc:c<=1114111) : Calls Tryz.prog 206 #[.int .i64 (c:Int)] w fun e w'=>e=.returned (.bool (D8 c))/\w=w':=by
 go_enter Tryz.func206,Tryz.ntmps206;go_wp2;all_goals
  go_ret;refine ⟨wF ?_,rfl⟩;unfold D8 nI;rw [jDk];simp
  (try omega)
theorem D7 (c:Nat) (w:jG9) (hc:c<=1114111) : Calls Tryz.prog 205 #[.int .i64 (c:Int)] w fun e w'=>e=.returned (.bool (iC c))/\w=w':=by
 go_enter Tryz.func205,Tryz.ntmps205;go_wp2;all_goals
  go_ret;refine ⟨wF ?_,rfl⟩;unfold iC nI
  (try simp only [beq_iff_eq,beq_eq_false_iff_ne,ne_eq] at *)
  simp;omega
theorem jf5{P:Prop}(h:P:=by
 go_wp2;all_goals
  go_ret;refine ⟨Jt ?_,rfl⟩;unfold fV
  (try simp only [bne_iff_ne,bne_eq_false_iff_eq,ne_eq] at *)
  (repeat' split)<;>omega):P:=h
theorem FM (c:Nat) (w:jG9) (hc:c<=1114111) : Calls Tryz.prog 237 #[.int .i64 (c:Int)] w fun e w'=>e=.returned (.int .i64 (fV c:Nat))/\w=w':=by go_enter Tryz.func237,Tryz.ntmps237;exact jf5
open Go.RowKit
theorem NA {k:IntKind} {a b:Int} (h:a=b):Ending.returned (.int k a)=.returned (.int k b):=by rw [h]
theorem UQ{P:Prop}(h:P:=by
 go_enter Tryz.func188,Tryz.ntmps188;go_wp2;go_ret;exact ⟨NA (by rw [HV.out,if_neg (by omega)]),rfl⟩):P:=h
theorem UR (s:ByteArray) (i low high:Nat) (w:jG9) (hs:s.size<=9223372036854775807) (hl:low<256) (hh:high<256) (hi:i<9223372036854775807) : Calls Tryz.prog 188 #[.string s,.int .i64 i,.int .i64 low,.int .i64 high] w fun e w'=>e=.returned (.int .i64 (mU s i low high))/\w=w':=by
 obtain ⟨V,hV⟩:∃ V,V=mU s i low high:=⟨_,rfl⟩;rw [<- hV];unfold mU at hV;have HV:=hid hV;clear hV;have hb:=fZ s i;by_cases h1:i<s.size
 ·have hw:wrap64 (s[i].toNat:Int)=(bt s i:Int):=by rw [jk s i h1];exact IntWalk.wrap64_in _ ⟨by omega,by omega⟩
  by_cases h2:low<=bt s i
  ·by_cases h3:bt s i<=high
   ·go_enter Tryz.func188,Tryz.ntmps188;go_wp2;go_ret;exact ⟨NA (by rw [HV.out,if_pos ⟨h1,h2,h3⟩]),rfl⟩
   ·exact UQ
  ·exact UQ
 ·exact UQ
theorem Ah {a b c d:Int} (h1:a=c) (h2:b=d):Ending.returned (.agg #[.int .i64 a,.int .i64 b])=.returned (.agg #[.int .i64 c,.int .i64 d]):=by rw [h1,h2]
def jox (s:ByteArray) (i low high v:Int):Prop:=
 ∀ w:jG9,Calls Tryz.prog 188 #[.string s,.int .i64 i,.int .i64 low,.int .i64 high] w fun e w'=>e=.returned (.int .i64 v)/\w=w'
theorem xD (s:ByteArray) (i low high:Nat) (j:Int) (hj:j=(i:Int)) (hs:s.size<=140737488355328) (hl:low<256) (hh:high<256) (hi:i<9223372036854775807):jox s j low high (mU s i low high):=by subst hj;exact fun w=>UR s i low high w (by omega) hl hh hi
theorem jf6{P Q:Prop}(q:Q)(h:Nonempty Q->P:=by
 intro qQ;have M1:=xD s (i+1) (jd b) (jQ b) (↑i+1) (by omega) hs (by unfold jd;split<;>(try split)<;>omega) (by unfold jQ;split<;>(try split)<;>omega) (by omega);have M2:=xD s (i+2) 128 191 (↑i+2) (by omega) hs (by omega) (by omega) (by omega);revert M1 M2;exact qQ.elim fun x=>x):P:=h ⟨q⟩
theorem jf7{P Q:Prop}(q:Q)(h:Nonempty Q->P:=by
 intro qQ;have hw:wrap64 (s[i].toNat:Int)=(b:Int):=by rw [jk s i hi,hb];exact IntWalk.wrap64_in _ ⟨by omega,by omega⟩
 have x1:=tK s (i+1) (jd b) (jQ b) (by unfold jd;split<;>(try split)<;>omega);have y1:=tK s (i+2) 128 191 (by omega);revert hw x1 y1;exact qQ.elim fun x=>x):P:=h ⟨q⟩
theorem jf8{P Q:Prop}(q:Q)(h:Nonempty Q->P:=by
 intro qQ;refine bodyPost_ret (v:=.agg #[.int .i64 65533,.int .i64 1]) (by simp [results,Tryz.results189,go_sem]) rfl ⟨?_,(Below.refl _ _).alloc (Nat.le_refl _) _⟩;exact qQ.elim fun x=>x):P:=h ⟨q⟩
theorem Pt (s:ByteArray) (i:Nat) (w:World) (hs:s.size<=140737488355328) (hi:i<s.size) (h1:224<=bt s i) (h2:bt s i<=239) : Calls Tryz.prog 189 #[.string s,.int .i64 i] w fun e w'=>e=.returned (.agg #[.int .i64 (Utf8.decode s i).1,.int .i64 (Utf8.decode s i).2])/\Below w.heap.size w w':=by
 obtain ⟨D1,D2⟩:=DJ s i hi h1 h2;generalize hb:bt s i=b at *;refine jf7 ?_;clear hb;intro hw x1 y1;refine jf6 ?_;intro M1 M2;generalize mU s (i+1) (jd b) (jQ b)=x at *;generalize mU s (i+2) 128 191=y at *;generalize Utf8.decode s i=d at *;obtain ⟨d1,d2⟩:=d;have k:(((b:Int)==224)=true/\((b:Int)==237)=false/\jd b=160/\jQ b=191)\/(((b:Int)==224)=false/\((b:Int)==237)=true/\jd b=128/\jQ b=159) \/
   (((b:Int)==224)=false/\((b:Int)==237)=false/\jd b=128/\jQ b=191):=by
  unfold jd jQ;by_cases k1:b=224
  ·left;subst k1;simp
  ·by_cases k2:b=237
   ·right;left;subst k2;simp
   ·right;right;refine ⟨by simp;omega,by simp;omega,?_,?_⟩<;>repeat (first | rw [if_neg (by omega)])
 have E1:=hid D1;have E2:=hid D2;clear D1 D2;rcases k with ⟨k1,k2,k3,k4⟩ | ⟨k1,k2,k3,k4⟩ | ⟨k1,k2,k3,k4⟩
 all_goals
  rw [k3,k4] at M1;clear k3 k4;go_enter Tryz.func189,Tryz.ntmps189;go_wp2_with fail
  refine (M1 _).mono ?_;rintro e w' ⟨rfl,rfl⟩;go_wp2_with fail
  refine (M2 _).mono ?_;rintro e w' ⟨rfl,rfl⟩;by_cases hx:x<0
  ·go_wp2;refine jf8 ?_;obtain ⟨rfl,rfl⟩:=Prod.mk.inj (E1.out (.inl hx));rfl
  ·by_cases hy:y<0
   ·go_wp2;refine jf8 ?_;obtain ⟨rfl,rfl⟩:=Prod.mk.inj (E1.out (.inr hy));rfl
   ·go_wp2;refine bodyPost_ret (v:=.agg #[.int .i64 ((b-224)*4096+x*64+y),.int .i64 3]) (by simp [results,Tryz.results189,go_sem]) rfl ⟨?_,(Below.refl _ _).alloc (Nat.le_refl _) _⟩;obtain ⟨r1,r2⟩:=E2.out (by omega) (by omega);exact Ah r1 (by simp only [r2];rfl)
theorem UU{P:Prop}(h:P:=by
 go_wp2;exact bodyPost_ret (v:=.agg #[.int .i64 65533,.int .i64 1]) (by simp [results,Tryz.results190,go_sem]) rfl ⟨rfl,(Below.refl _ _).alloc (Nat.le_refl _) _⟩):P:=h
theorem UW (s:ByteArray) (i:Nat) (w:jG9) (hs:s.size<=140737488355328) (hi:i<s.size) (h1:240<=bt s i) (h2:bt s i<=244) : Calls Tryz.prog 190 #[.string s,.int .i64 i] w fun e w'=>e=.returned (.agg #[.int .i64 (Utf8.decode s i).1,.int .i64 (Utf8.decode s i).2])/\Below w.heap.size w w':=by
 obtain ⟨D1,D2⟩:=Ih s i hi h1 h2;generalize hb:bt s i=b at *;refine jf7 ?_;clear hb;intro hw x1 y1;have z1:=tK s (i+3) 128 191 (by omega);refine jf6 ?_;intro M1 M2;have M3:=xD s (i+3) 128 191 (↑i+3) (by omega) hs (by omega) (by omega) (by omega);generalize mU s (i+1) (jd b) (jQ b)=x at *;generalize mU s (i+2) 128 191=y at *;generalize mU s (i+3) 128 191=z at *;generalize Utf8.decode s i=d at *;obtain ⟨d1,d2⟩:=d;have k:(((b:Int)==240)=true/\((b:Int)==244)=false/\jd b=144/\jQ b=191)\/(((b:Int)==240)=false/\((b:Int)==244)=true/\jd b=128/\jQ b=143) \/
   (((b:Int)==240)=false/\((b:Int)==244)=false/\jd b=128/\jQ b=191):=by
  unfold jd jQ;by_cases k1:b=240
  ·left;subst k1;simp
  ·by_cases k2:b=244
   ·right;left;subst k2;simp
   ·right;right;refine ⟨by simp;omega,by simp;omega,?_,?_⟩<;>repeat (first | rw [if_neg (by omega)])
 have E1:=hid D1;have E2:=hid D2;clear D1 D2;rcases k with ⟨k1,k2,k3,k4⟩ | ⟨k1,k2,k3,k4⟩ | ⟨k1,k2,k3,k4⟩
 all_goals
  rw [k3,k4] at M1;clear k3 k4;go_enter Tryz.func190,Tryz.ntmps190;go_wp2_with fail
  refine (M1 _).mono ?_;rintro e w' ⟨rfl,rfl⟩;go_wp2_with fail
  refine (M2 _).mono ?_;rintro e w' ⟨rfl,rfl⟩;go_wp2_with fail
  refine (M3 _).mono ?_;rintro e w' ⟨rfl,rfl⟩;by_cases hn:x<0\/y<0\/z<0
  ·obtain ⟨rfl,rfl⟩:=Prod.mk.inj (E1.out hn);by_cases hx:x<0
   ·exact UU
   ·by_cases hy:y<0
    ·exact UU
    ·have hz:z<0:=by omega
     exact UU
  ·have hx:0<=x:=by omega
   have hy:0<=y:=by omega
   have hz:0<=z:=by omega
   clear hn;go_wp2;refine bodyPost_ret (v:=.agg #[.int .i64 ((b-240)*262144+x*4096+y*64+z),.int .i64 4]) (by simp [results,Tryz.results190,go_sem]) rfl ⟨?_,(jD7 _ _).alloc (jD8 _) _⟩;obtain ⟨r1,r2⟩:=E2.out hx hy hz;exact Ah r1 (by simp only [r2];rfl)
open Go.RowKit
def joz (f:Nat) (s:ByteArray) (i:Int) (d1 d2:Int):Prop:=
 ∀ w:jG9,Calls Tryz.prog f #[.string s,.int .i64 i] w fun e w'=>e=.returned (.agg #[.int .i64 d1,.int .i64 d2])/\Below w.heap.size w w'
theorem jf9 {W w1:jG9} (hb:Below W.heap.size W w1):(∀ b o,b<W.heap.size->w1.cell? ⟨b,o,none⟩=W.cell? ⟨b,o,none⟩)/\(∀ b o,b<W.heap.size->w1.frozen? ⟨b,o,none⟩=W.frozen? ⟨b,o,none⟩):=
 ⟨fun b o h=>hb.cell (p:=⟨b,o,none⟩) h,fun b o h=>hb.frozen (p:=⟨b,o,none⟩) h⟩
theorem jfj{P:Prop}(h:P:=by
 generalize Utf8.decode s i=d at *;obtain ⟨d1,d2⟩:=d;have T:=hid T;go_enter Tryz.func150,Tryz.ntmps150;go_wp2_with fail
 refine (T.out _).mono ?_;rintro e w' ⟨rfl,hb⟩;obtain ⟨hc,hf⟩:=jf9 hb;go_wp2;refine bodyPost_ret (v:=.agg #[.int .i64 d1,.int .i64 d2]) (by simp [results,Tryz.results150,go_sem,hc]) rfl ⟨rfl,?_⟩;exact ((((Below.refl _ _).alloc (Nat.le_refl _) _).trans (hb.mono (by simp))).setCell (by simp) _).setCell (by simp) _):P:=h
theorem UY{P:Prop}(h:P:=by
 go_wp2;exact bodyPost_ret (v:=.agg #[.int .i64 65533,.int .i64 1]) (by simp [results,Tryz.results150,go_sem]) rfl ⟨rfl,(Below.refl _ _).alloc (Nat.le_refl _) _⟩):P:=h
theorem UO (s:ByteArray) (i:Nat) (hs:s.size<=140737488355328) (hi:i<s.size) : joz 150 s i (Utf8.decode s i).1 (Utf8.decode s i).2:=by
 intro w;have hbl:=fZ s i;have hw:wrap64 (s[i].toNat:Int)=(bt s i:Int):=by rw [jk s i hi];exact IntWalk.wrap64_in _ ⟨by omega,by omega⟩
 by_cases c1:bt s i<128
 ·rw [wU s i c1];go_enter Tryz.func150,Tryz.ntmps150;go_wp2;exact bodyPost_ret (v:=.agg #[.int .i64 (bt s i),.int .i64 1]) (by simp [results,Tryz.results150,go_sem]) rfl ⟨rfl,(jD7 _ _).alloc (jD8 _) _⟩
 by_cases c2:bt s i<194
 ·rw [wV s i (by omega) (.inl c2)];go_enter Tryz.func150,Tryz.ntmps150;exact UY
 by_cases c3:bt s i<=223
 ·obtain ⟨D1,D2⟩:=wW s i hi (by omega) c3;have x1:=tK s (i+1) 128 191 (by omega);have M1:=xD s (i+1) 128 191 (↑i+1) (by omega) hs (by omega) (by omega) (by omega);generalize mU s (i+1) 128 191=x at *;generalize Utf8.decode s i=d at *;obtain ⟨d1,d2⟩:=d;have E1:=hid D1;have E2:=hid D2;clear D1 D2;go_enter Tryz.func150,Tryz.ntmps150;go_wp2_with fail
  refine (M1 _).mono ?_;rintro e w' ⟨rfl,rfl⟩;by_cases hx:x<0
  ·obtain ⟨rfl,rfl⟩:=Prod.mk.inj (E1.out hx);exact UY
  ·go_wp2;refine bodyPost_ret (v:=.agg #[.int .i64 ((bt s i-192)*64+x),.int .i64 2]) (by simp [results,Tryz.results150,go_sem]) rfl ⟨?_,(jD7 _ _).alloc (jD8 _) _⟩;obtain ⟨r1,r2⟩:=E2.out (by omega);exact Ah r1 (by simp only [r2];rfl)
 by_cases c4:bt s i<=239
 ·have T:=(Pt s i · hs hi (by omega) c4);exact jfj
 by_cases c5:bt s i<=244
 ·have T:=(UW s i · hs hi (by omega) c5);exact jfj
 rw [wV s i (by omega) (.inr (by omega))];go_enter Tryz.func150,Tryz.ntmps150;exact UY
open Go.RowKit
theorem Lg (c:Nat) (w:jG9) (hc:c<=1114111) : Calls Tryz.prog 247 #[.int .i64 (c:Int)] w fun e w'=>e=.returned (.int .i64 (fV c:Nat))/\w=w':=by go_enter Tryz.func247,Tryz.ntmps247;exact jf5
theorem Lf (c:Nat) (w:jG9) (hc:c<=1114111) : Calls Tryz.prog 246 #[.int .i64 (c:Int)] w fun e w'=>e=.returned (.bool (YQ c))/\w=w':=by go_enter Tryz.func246,Tryz.ntmps246;exact jf4
def Aj (c:Nat) (rs:List (Nat × Nat)):Bool:=rs.any fun r=>nI c r.1 r.2
theorem Pv (c:Nat) (rs:List (Nat × Nat)) (k:Nat) (r:Nat × Nat) (h:rs[k]?=some r):Aj c (rs.take (k+1))=(Aj c (rs.take k)||nI c r.1 r.2):=by unfold Aj;rw [List.take_add_one,h];simp
theorem Pw (c:Nat) (rs:List (Nat × Nat)) (k:Nat) (h:Aj c (rs.take k)=true):Aj c rs=true:=by unfold Aj at *;rw [List.any_eq_true] at *;obtain ⟨x,hx,h⟩:=h;exact ⟨x,List.mem_of_mem_take hx,h⟩
def juq (w wr:jG9) (c:Nat) (rs:List (Nat × Nat)) (vi:jGk):Prop:=
 ∃ k:Nat,k<=rs.length/\vi=.int .i64 k/\Aj c (rs.take k)=false/\Below w.heap.size w wr
theorem Yy (c:Nat) (rs:List (Nat × Nat)) (b cap:Nat) (w:jG9) (hc:c<=1114111) (hn:rs.length<=1000) (hcell:∀ i r,rs[i]?=some r->w.cell? ⟨b,i*2,none⟩=some (.int .i64 r.1)/\w.cell? ⟨b,i*2+1,none⟩=some (.int .i64 r.2)) : Calls Tryz.prog 249 #[.int .i64 (c:Int),.slice (some ⟨b,0,none⟩) rs.length cap] w fun e w'=>e=.returned (.bool (Aj c rs))/\Below w.heap.size w w':=by
 have HC:=hid hcell;have HZ:Hid (Aj c (rs.take 0)=false):=rfl;clear hcell;go_enter Tryz.func249,Tryz.ntmps249;go_wp2
 go_loopw [9] (fun vi wr=>juq w wr c rs vi) (fun i _=>rs.length-(intOf i).toNat)
 case atStart=>exact ⟨0,jE3 _,rfl,HZ.out,jD7 _ _⟩
 case round=>
  obtain ⟨k,hk,rfl,hany,hbel⟩:=hrel;have HA:=hid hany;clear hany;by_cases hlt:k<rs.length
  ·obtain ⟨r,hr⟩:∃ r,rs[k]?=some r:=⟨_,jD6 hlt⟩;obtain ⟨k1,k2⟩:=HC.out k r hr;have hbl:b<w.heap.size:=qw k1;have c1:wr.cell? ⟨b,k*2,none⟩=some (.int .i64 r.1):=by rw [hbel.cell (p:=⟨b,k*2,none⟩) hbl];exact k1
   have c2:wr.cell? ⟨b,k*2+1,none⟩=some (.int .i64 r.2):=by rw [hbel.cell (p:=⟨b,k*2+1,none⟩) hbl];exact k2
   have hsn:=Pv c rs k r hr;rw [HA.out] at hsn;have gV:=hid hsn;have HT:=hid (Pw c rs (k+1));obtain ⟨r1,r2⟩:=r;clear hr k1 k2 hsn;go_wp2_with fail
   ·go_ret;exact ⟨by rw [HT.out (by rw [gV.out];simp [nI];omega)];rfl,hbel.alloc hbel.size _⟩
   all_goals
    exact ⟨⟨k+1,by omega,by go_num,by rw [gV.out];simp [nI];omega,hbel.alloc hbel.size _⟩,by simp [intOf];omega⟩
  ·have hkl:k=rs.length:=by omega
   have hA:=HA.out;rw [hkl,List.take_length] at hA;have HA2:=hid hA;clear hA HA hkl;go_wp2;go_ret;exact ⟨by rw [HA2.out];rfl,hbel⟩
def rgCells (rs:List (Nat × Nat)):List jGk:=(rs.map fun r=>[Value.int .i64 (r.1:Int),Value.int .i64 (r.2:Int)]).flatten
theorem UZ (w:jG9) (T:TypeId) (rs:List (Nat × Nat)):∀ i r,rs[i]?=some r->(w.alloc (.cells (rgCells rs).toArray T)).cell? ⟨w.heap.size,i*2,none⟩=some (.int .i64 r.1)/\(w.alloc (.cells (rgCells rs).toArray T)).cell? ⟨w.heap.size,i*2+1,none⟩=some (.int .i64 r.2):=by
 intro i r h;have hr:(rs.map fun r=>[Value.int .i64 (r.1:Int),Value.int .i64 (r.2:Int)])[i]?=some [.int .i64 r.1,.int .i64 r.2]:=by simp [h]
 have hl:∀ x∈(rs.map fun r=>[Value.int .i64 (r.1:Int),Value.int .i64 (r.2:Int)]),x.length=2:=by intro x hx;obtain ⟨y,_,rfl⟩:=List.mem_map.1 hx;rfl
 have h0:=Yo 2 _ hl i 0 _ (.int .i64 r.1) hr rfl;have h1:=Yo 2 _ hl i 1 _ (.int .i64 r.2) hr rfl;have e:∀ j,((⟨w.heap.size,0,none⟩:Addr).add j)=⟨w.heap.size,j,none⟩:=fun j=>by unfold Addr.add;split<;>simp_all
 have g0:=Gh w (rgCells rs) T _ _ h0;have g1:=Gh w (rgCells rs) T _ _ h1;rw [e] at g0 g1;exact ⟨g0,g1⟩
def Ip:List (Nat × Nat):=[(65,90),(97,122),(170,170),(181,181),(186,186),(192,214),(216,246),(248,687),(880,1327),(4256,4351),(7680,8191),(12353,12538),(19968,40959),(44032,55203)]
theorem Px (c:Nat):Aj c Ip=iC c:=by simp [Aj,Ip,iC,Bool.or_assoc]
theorem Iq (c:Nat) (w:jG9) (hc:c<=1114111) : Calls Tryz.prog 218 #[.int .i64 (c:Int)] w fun e w'=>e=.returned (.bool (iC c))/\Below w.heap.size w w':=by
 have RI:=hid (fun T=>Yy c Ip w.heap.size 14 (w.alloc (.cells (rgCells Ip).toArray T)) hc (by decide) (UZ w T Ip));rw [<- Px c];go_enter Tryz.func218,Tryz.ntmps218;go_wp2_with fail
 refine (RI.out _).mono ?_;rintro e w1 ⟨rfl,hb1⟩;go_wp2;go_ret;exact ⟨rfl,((jD7 _ w).alloc (jD8 _) _).trans (hb1.mono (by simp))⟩
def U0 (w:jG9) (bs:List jGk) (e:Ending) (w':jG9):Prop:=∃ g cap,e=.returned (.slice (some ⟨g,0,none⟩) bs.length cap)/\bs.length<=cap/\w.heap.size<=g/\(∀ j u,bs[j]?=some u->w'.cell? ((⟨g,0,none⟩:Addr).add j)=some u)/\Below w.heap.size w w'
theorem jfk{P Q:Prop}(q:Q)(h:Nonempty Q->P:=by
 intro qQ;have e1:decide ((c:Int)<0)=false:=by simp
 have e2:decide ((1114111:Int)<(c:Int))=false:=by simp;omega
 have e3:decide ((55296:Int)<=(c:Int))=true:=by simp;omega
 have e4:decide ((c:Int)<=57343)=false:=by simp;omega
 have e5:decide ((c:Int)<128)=false:=by simp;omega
 have e6:decide ((c:Int)<2048)=false:=by simp;omega
 revert e1 e2 e3 e4 e5 e6;exact qQ.elim fun x=>x):P:=h ⟨q⟩
theorem DL (c:Nat) (w:World) (hc:c<=1114111) (hs:c<55296\/57343<c) : Calls Tryz.prog 270 #[.int .i64 (c:Int)] w (U0 w (Lib.runeCells (c:Int))):=by
 have fin:∀ (bs:List Value) (n:Nat),bs.length=n->U0 w bs (.returned (.slice (some ⟨w.heap.size,0,none⟩) n n)) (w.alloc (.cells bs.toArray 5)):=by rintro bs n rfl;exact ⟨w.heap.size,bs.length,rfl,Nat.le_refl _,Nat.le_refl _,Gh w bs _,(Below.refl _ w).alloc (Nat.le_refl _) _⟩
 have HF:=hid fin;clear fin;by_cases h1:c<128
 ·have e:Lib.runeCells (c:Int)=[.int .u8 (c:Int)]:=by unfold Lib.runeCells;rw [Lib.encodeRuneZ_one (by omega) (by omega)];rfl
  rw [e];clear e;go_enter Tryz.func270,Tryz.ntmps270;go_wp2_with fail
  go_ret;exact HF.out _ 1 rfl
 by_cases h2:c<2048
 ·have e:Lib.runeCells (c:Int)=[.int .u8 (192+(c:Int)/64),.int .u8 (128+(c:Int)%64)]:=by unfold Lib.runeCells;rw [Lib.encodeRuneZ_two (by omega) (by omega)];rfl
  rw [e];clear e;go_enter Tryz.func270,Tryz.ntmps270;go_wp2_with fail
  go_ret;exact HF.out _ 2 rfl
 by_cases h3:c<65536
 ·have e:Lib.runeCells (c:Int)=[.int .u8 (224+(c:Int)/4096),.int .u8 (128+(c:Int)/64%64),.int .u8 (128+(c:Int)%64)]:=by unfold Lib.runeCells;rw [Lib.encodeRuneZ_three (by omega)];rfl
  rw [e];clear e;rcases hs with hs | hs
  ·have e0:decide ((c:Int)<65536)=true:=by simp;omega
   have e1:decide ((c:Int)<0)=false:=by simp
   have e2:decide ((1114111:Int)<(c:Int))=false:=by simp;omega
   have e3:decide ((55296:Int)<=(c:Int))=false:=by simp;omega
   have e5:decide ((c:Int)<128)=false:=by simp;omega
   have e6:decide ((c:Int)<2048)=false:=by simp;omega
   clear hs;go_enter Tryz.func270,Tryz.ntmps270;go_wp2_with fail
   go_ret;exact HF.out _ 3 rfl
  ·have e0:decide ((c:Int)<65536)=true:=by simp;omega
   refine jfk ?_;intro e1 e2 e3 e4 e5 e6;clear hs;go_enter Tryz.func270,Tryz.ntmps270;go_wp2_with fail
   go_ret;exact HF.out _ 3 rfl
 ·have e:Lib.runeCells (c:Int)=[.int .u8 (240+(c:Int)/262144),.int .u8 (128+(c:Int)/4096%64),.int .u8 (128+(c:Int)/64%64),.int .u8 (128+(c:Int)%64)]:=by unfold Lib.runeCells;rw [Lib.encodeRuneZ_four (by omega) (by omega)];rfl
  rw [e];clear e;have e0:decide ((c:Int)<65536)=false:=by simp;omega
  refine jfk ?_;intro e1 e2 e3 e4 e5 e6;clear hs;go_enter Tryz.func270,Tryz.ntmps270;go_wp2_with fail
  go_ret;exact HF.out _ 4 rfl
theorem Ld (c:Nat) (w:World) (hc:c<=1114111) : Calls Tryz.prog 270 #[.int .i64 (c:Int)] w (U0 w (Lib.runeCells (c:Int))):=by
 by_cases hs:c<55296\/57343<c
 ·exact DL c w hc hs
 ·have e:Lib.runeCells (c:Int)=Lib.runeCells ((65533:Nat):Int):=by
   unfold Lib.runeCells Lib.encodeRuneZ;rw [if_neg (by omega),if_neg (by omega),if_neg (by omega),if_neg (by omega)];rfl
  rw [e];have RB:=hid (fun w=>DL 65533 w (by omega) (by omega));clear e;go_enter Tryz.func270,Tryz.ntmps270;go_wp2_with fail
  refine (RB.out _).mono ?_;rintro e w1 ⟨g,cap,rfl,h1,h2,h3,h4⟩;go_wp2;go_ret;exact ⟨g,cap,rfl,h1,h2,h3,h4⟩
open Go.RowKit
def dY (c:Nat):Bool:=nI c 97 122||nI c 65 90
def H8 (c:Nat):Bool:=(decide (c=45)||decide (c=95)||decide (c=46)||decide (c=58))||(dY c||nI c 48 57)
theorem wu (c:Nat) (w:World) (hc:c<256) : Calls Tryz.prog 96 #[.int .u8 (c:Int)] w fun e w'=>e=.returned (.bool (dY c))/\w=w':=by
 go_enter Tryz.func96,Tryz.ntmps96;go_wp2;all_goals
  go_ret;refine ⟨wF ?_,rfl⟩;unfold dY nI;rw [Bool.eq_iff_iff];simp
  (try omega)
theorem jfq{P:Prop}(h:P:=by
 go_enter Tryz.func149,Tryz.ntmps149;go_wp2_with fail
 refine (LT.out _).mono ?_;rintro e w1 ⟨rfl,rfl⟩;go_wp2;go_ret;refine ⟨?_,rfl⟩;rw [HV.out];refine wF ?_;rw [Bool.eq_iff_iff];simp [nI];omega):P:=h
theorem zP (c:Nat) (w:jG9) (hc:c<256) : Calls Tryz.prog 149 #[.int .u8 (c:Int)] w fun e w'=>e=.returned (.bool (H8 c))/\w=w':=by
 have LT:=hid (fun w=>wu c w hc);by_cases h:c=45\/c=95\/c=46\/c=58
 ·have hv:H8 c=true:=by unfold H8;rcases h with h | h | h | h<;>simp [h]
  rw [hv];clear hv;rcases h with rfl | rfl | rfl | rfl
  all_goals
   go_enter Tryz.func149,Tryz.ntmps149;go_wp2;go_ret;exact ⟨rfl,rfl⟩
 ·have e1:((c:Int)==45)=false:=by rw [beq_eq_false_iff_ne];omega
  have e2:((c:Int)==95)=false:=by rw [beq_eq_false_iff_ne];omega
  have e3:((c:Int)==46)=false:=by rw [beq_eq_false_iff_ne];omega
  have e4:((c:Int)==58)=false:=by rw [beq_eq_false_iff_ne];omega
  have hv:H8 c=(dY c||nI c 48 57):=by unfold H8;rw [show (decide (c=45)||decide (c=95)||decide (c=46)||decide (c=58))=false by simp;omega];rfl
  have HV:=hid hv;generalize H8 c=V at *;clear hv h;cases hl:dY c with
  | true=>
   rw [hl] at LT;go_enter Tryz.func149,Tryz.ntmps149;go_wp2_with fail
   refine (LT.out _).mono ?_;rintro e w1 ⟨rfl,rfl⟩;go_wp2;go_ret;exact ⟨by rw [HV.out,hl];rfl,rfl⟩
  | false=>
   rw [hl] at LT;rw [hl] at HV;by_cases h48:48<=c
   ·have q1:decide ((48:Int)<=(c:Int))=true:=by simp;omega
    exact jfq
   ·have q1:decide ((48:Int)<=(c:Int))=false:=by simp;omega
    exact jfq
def iA (c:UInt8):Bool:=H8 c.toNat
theorem qL (p:UInt8->Bool):∀ (l:List UInt8) (k:Nat),k<=l.length->(∀ j x,j<k->l[j]?=some x->p x=true)->(∀ x,l[k]?=some x->p x=false)->(l.takeWhile p).length=k
 | [],k,h,_,_=>by simp at h;subst h;rfl
 | x::l,0,_,_,h2=>by rw [List.takeWhile_cons,h2 x rfl];rfl
 | x::l,k+1,h,h1,h2=>by
  rw [List.takeWhile_cons,h1 0 x (by omega) rfl];simp;exact qL p l k (by simpa using h) (fun j y hj hy=>h1 (j+1) y (by omega) (by simpa using hy)) (fun y hy=>h2 y (by simpa using hy))
def tQ (s:ByteArray):Nat:=(s.data.toList.takeWhile iA).length
theorem Cc (s:ByteArray) (k:Nat) (h:k<s.size):s.data.toList[k]?=some s[k]:=by rw [jD6 (by simpa using h)];rfl
theorem Nu{P:Prop}(h:P:=by
 rcases Nat.lt_or_ge j k with h | h
 ·exact HA.out j x h hx
 ·have:j=k:=by omega
  subst this;rw [HG.out] at hx;obtain rfl:=Option.some.inj hx;exact HN.out):P:=h
theorem Nv{P:Prop}(h:P:=by
 have HW:=hid hw;clear hn hw;go_wp2_with fail
 refine (IN.out _).mono ?_;rintro e w1 ⟨rfl,rfl⟩;go_wp2;go_ret;exact ⟨by rw [HW.out];rfl,rfl⟩):P:=h
theorem jfx{P:Prop}(h:P:=by
 have hw:V=k:=by
  rw [HV.out];refine qL iA _ k (by simpa using hk) HA.out (fun x hx=>?_);have:=(List.getElem?_eq_some_iff.1 hx).1;have e:s.data.toList.length=s.size:=by simp
  omega
 have HW:=hid hw;clear hw;go_wp2;go_ret;exact ⟨by rw [HW.out];rfl,rfl⟩):P:=h
theorem jfz{P:Prop}(h:P:=by
 rw [HV.out];exact qL iA _ k (by simpa using hk) HA.out (fun x hx=>by rw [HG.out] at hx;obtain rfl:=Option.some.inj hx;exact hn)):P:=h
theorem Ir (s:ByteArray) (w:jG9) (hs:s.size<=1000000000) : Calls Tryz.prog 97 #[.string s,.int .i64 0] w fun e w'=>e=.returned (.int .i64 (tQ s:Nat))/\w=w':=by
 obtain ⟨V,hV⟩:∃ V,V=tQ s:=⟨_,rfl⟩;rw [<- hV];have HV:=hid hV;clear hV;go_enter Tryz.func97,Tryz.ntmps97;go_wp2
 go_loop [1] (fun vi=>∃ k:Nat,k<=s.size/\vi=.int .i64 k/\∀ j x,j<k->s.data.toList[j]?=some x->iA x=true) (fun i=>s.size-(intOf i).toNat)
 case atStart=>exact ⟨0,jE3 _,rfl,fun j x hj=>by omega⟩
 case round=>
  obtain ⟨k,hk,rfl,hall⟩:=hrel;have HA:=hid hall;clear hall;by_cases hlt:k<s.size
  ·have hgl:=UInt8.toNat_lt s[k];have IN:=hid (fun w=>zP s[k].toNat w hgl);have HG:=hid (Cc s k hlt);cases hn:H8 s[k].toNat with
   | true=>
    rw [hn] at IN;have HN:=hid hn;clear hn;go_wp2_with fail
    refine (IN.out _).mono ?_;rintro e w1 ⟨rfl,rfl⟩;go_wp2
    go_round
    case rel=>
     refine ⟨k+1,by omega,by go_num,fun j x hj hx=>?_⟩;exact Nu
    case measure=>simp [intOf];omega
   | false=>
    rw [hn] at IN;have hw:V=k:=by exact jfz
    exact Nv
  ·exact jfx
def dZ (s:ByteArray):Bool:=decide (1<=s.size)&&decide (s.size<=60)&&(match s.data.toList with | []=>false | c::_=>dY c.toNat)&&decide (tQ s=s.size)
theorem jg0{P:Prop}(h:P:=by
 go_wp2_with fail
 refine (LT.out _).mono ?_;rintro e w1 ⟨rfl,rfl⟩;go_wp2_with fail
 refine (WE.out _).mono ?_;rintro e w1 ⟨rfl,rfl⟩;go_wp2;go_ret;refine ⟨?_,rfl⟩;rw [HV.out];refine wF ?_;rw [Bool.eq_iff_iff];simp
 (try omega)):P:=h
theorem jg1{P:Prop}(h:P:=by
 go_wp2_with fail
 refine (LT.out _).mono ?_;rintro e w1 ⟨rfl,rfl⟩;go_wp2;go_ret;exact ⟨by rw [HV.out];rfl,rfl⟩):P:=h
theorem jg2{P:Prop}(h:P:=by
 unfold dZ;rw [hl,decide_eq_true (show 1<=s.size by omega),decide_eq_true (show s.size<=60 by omega)];rfl):P:=h
theorem P9 (s:ByteArray) (w:jG9) (hs:s.size<=1000000000) : Calls Tryz.prog 52 #[.string s] w fun e w'=>e=.returned (.bool (dZ s))/\w=w':=by
 by_cases h0:s.size=0
 ·have hv:dZ s=false:=by unfold dZ;simp [h0]
  rw [hv];have e0:((s.size:Int)==0)=true:=by simp [h0]
  clear hv h0;go_enter Tryz.func52,Tryz.ntmps52;go_wp2;go_ret;exact ⟨rfl,rfl⟩
 have e0:((s.size:Int)==0)=false:=by rw [beq_eq_false_iff_ne];omega
 by_cases h60:60<s.size
 ·have hv:dZ s=false:=by unfold dZ;simp;omega
  rw [hv];have e1:decide ((60:Int)<(s.size:Int))=true:=by simp;omega
  clear hv;go_enter Tryz.func52,Tryz.ntmps52;go_wp2;go_ret;exact ⟨rfl,rfl⟩
 have e1:decide ((60:Int)<(s.size:Int))=false:=by simp;omega
 have hp:0<s.size:=by omega
 have hg:=Cc s 0 hp;obtain ⟨c,hc⟩:∃ c,s[0]=c:=⟨_,rfl⟩;rw [hc] at hg;have hcl:=UInt8.toNat_lt c;have LT:=hid (fun w=>wu c.toNat w hcl);have WE:=hid (fun w=>Ir s w hs);have hl:s.data.toList=c::s.data.toList.tail:=by
  cases h:s.data.toList with
  | nil=>rw [h] at hg;simp at hg
  | cons a l=>rw [h] at hg;simp at hg;rw [hg];rfl
 have hv:dZ s=(dY c.toNat&&decide (tQ s=s.size)):=by exact jg2
 have HV:=hid hv;generalize dZ s=V at *;generalize tQ s=E at *;clear hv hl hg;cases hlt:dY c.toNat with
 | false=>
  rw [hlt] at LT;rw [hlt] at HV;go_enter Tryz.func52,Tryz.ntmps52;exact jg1
 | true=>
  rw [hlt] at LT;rw [hlt] at HV;go_enter Tryz.func52,Tryz.ntmps52;exact jg0
open Go.RowKit
theorem DN{P:Prop}(h:P:=by
 rw [hp] at HT hle;have Ba:=hid (IK.out (by omega));clear hp IK;generalize aj.aG ks=pk at *;go_wp2_with fail
 refine Ba.out.mono ?_;rintro e w1 ⟨rfl,rfl⟩;go_wp2
 go_round
 case rel=>exact ⟨k+1,by omega,by go_num,by rw [YR.out,HT.out];exact congrArg Value.string (Nz acc pk)⟩
 case measure=>simp [intOf];omega):P:=h
theorem iX{P Q:Prop}(q:Q)(h:Nonempty Q->P:=by
 intro qQ;obtain ⟨x,hx⟩:∃ x,l[k]?=some x:=⟨_,List.getElem?_eq_getElem hlt⟩;revert x hx;exact qQ.elim fun x=>x):P:=h ⟨q⟩
theorem U6{P:Prop}(h:P:=by
 rw [hp] at HT hle;have hle2:acc.length+t.size<=1000000000:=by rw [Lib.size_eq];omega
 clear hp hle IK;go_wp2
 go_round
 case rel=>exact ⟨k+1,by omega,by go_num,by rw [YR.out,HT.out,Io]⟩
 case measure=>simp [intOf];omega):P:=h
theorem jg3{P:Prop}(h:P:=by
 rw [hp] at HT hle;simp only [List.length_cons,List.length_nil] at hle;clear hp IK;go_wp2
 go_round
 case rel=>exact ⟨k+1,by omega,by go_num,by rw [YR.out,HT.out];exact congrArg Value.string (Nz acc [32])⟩
 case measure=>simp [intOf];omega):P:=h
theorem YS{P Q:Prop}(q:Q)(h:Nonempty Q->P:=by
 intro qQ;have f1:=beq_false_of_ne h1;have f2:=beq_false_of_ne h2;have f3:=beq_false_of_ne h3;have f4:=beq_false_of_ne h4;have f5:=beq_false_of_ne h5;have f6:=beq_false_of_ne h6;have f7:=beq_false_of_ne h7;have f8:=beq_false_of_ne h8;have f9:=beq_false_of_ne h9;have f10:=beq_false_of_ne h10;have f11:=beq_false_of_ne h11;have f16:=beq_false_of_ne h16;revert f1 f2 f3 f4 f5 f6 f7 f8 f9 f10 f11 f16;exact qQ.elim fun x=>x):P:=h ⟨q⟩
theorem Kk (n:Nat):∀ (l:List aj) (ok:Nat->Prop) (v:jGk) (w:jG9),aj.aY l<=n->Rd ok w (bG l) [v]->(aj.aG l).length<=1000000000 -> Calls Tryz.prog 220 #[v] w fun e w'=>e=.returned (.string ⟨(aj.aG l).toArray⟩)/\w=w':=by
 induction n using Nat.strongRecOn with
 | _ n ih=>
  intro l ok v w hn hrd hlen;obtain ⟨a,cap,hv,hs⟩:=Rd.ay hrd;obtain rfl:v=.slice a l.length cap:=by simpa using hv
  have hcap:l.length<=cap:=by simpa using hs.le
  have hmx:=hs.max;have HS:=hid hs;have HZ:Hid (aj.aG (l.take 0)=[]):=by show aj.aG []=[];rw [aj.aG]
  have IH:=hid ih;clear hs hv hrd ih;unfold maxLen at hmx;go_enter Tryz.func220,Tryz.ntmps220;go_wp2
  go_loop [3,4] (fun v i=>∃ k:Nat,k<=l.length/\i=.int .i64 k/\v=.string ⟨(aj.aG (l.take k)).toArray⟩) (fun _ i=>l.length-(intOf i).toNat)
  case atStart=>exact ⟨0,jE3 _,rfl,by rw [HZ.out]⟩
  case round=>
   obtain ⟨k,hk,rfl,rfl⟩:=hrel;by_cases hlt:k<l.length
   ·refine iX ?_;intro x hx;obtain ⟨kd,t,d,ti,at_,ar,ci,ks⟩:=x;obtain ⟨b,off,vc,vp,va,vi,vk,rfl,hok,hbl,hc,hR⟩:=L9 HS.out hx;obtain ⟨c0,c1,c2,-,-,-,-,-,-,c9⟩:=hc;have xK:=hR.kids;have hsz:=aj.bE l k _ hx;rw [aj.sz] at hsz;have HT:=hid (aj.nD l k _ hx);have hle:=aj.FQ l k _ hx;have ik:=fun h=>IH.out (aj.aY ks) (by omega) ks ok vk w (jD8 _) xK h
    have IK:=hid ik;clear hx xK hR ik;generalize hacc:aj.aG (l.take k)=acc at *;generalize hacc':aj.aG (l.take (k+1))=acc' at *;have YR:=hid hacc';clear hacc hacc';rcases vw kd with (rfl | rfl | rfl) | (rfl | rfl) | (rfl | rfl | rfl | rfl | rfl | rfl) | rfl | h
    ·have hp:(aj.mk 1 t d ti at_ ar ci ks).plain=t.data.toList:=by rw [aj.plain];simp
     exact U6
    ·have hp:(aj.mk 4 t d ti at_ ar ci ks).plain=t.data.toList:=by rw [aj.plain];simp
     exact U6
    ·have hp:(aj.mk 5 t d ti at_ ar ci ks).plain=t.data.toList:=by rw [aj.plain];simp
     exact U6
    ·have hp:(aj.mk 2 t d ti at_ ar ci ks).plain=[32]:=by rw [aj.plain];simp
     exact jg3
    ·have hp:(aj.mk 3 t d ti at_ ar ci ks).plain=[32]:=by rw [aj.plain];simp
     exact jg3
    ·have hp:(aj.mk 6 t d ti at_ ar ci ks).plain=aj.aG ks:=by rw [aj.plain];simp
     exact DN
    ·have hp:(aj.mk 7 t d ti at_ ar ci ks).plain=aj.aG ks:=by rw [aj.plain];simp
     exact DN
    ·have hp:(aj.mk 8 t d ti at_ ar ci ks).plain=aj.aG ks:=by rw [aj.plain];simp
     exact DN
    ·have hp:(aj.mk 9 t d ti at_ ar ci ks).plain=aj.aG ks:=by rw [aj.plain];simp
     exact DN
    ·have hp:(aj.mk 10 t d ti at_ ar ci ks).plain=aj.aG ks:=by rw [aj.plain];simp
     exact DN
    ·have hp:(aj.mk 11 t d ti at_ ar ci ks).plain=aj.aG ks:=by rw [aj.plain];simp
     exact DN
    ·have hp:(aj.mk 16 t d ti at_ ar ci ks).plain=d.data.toList:=by rw [aj.plain];simp
     rw [hp] at HT hle;have hle2:acc.length+d.size<=1000000000:=by rw [Lib.size_eq];omega
     clear hp hle IK;go_wp2
     go_round
     case rel=>exact ⟨k+1,by omega,by go_num,by rw [YR.out,HT.out,Io]⟩
     case measure=>simp [intOf];omega
    ·obtain ⟨h1,h4,h5,h2,h3,h6,h7,h8,h9,h10,h11,h16⟩:=h;have hp:(aj.mk kd t d ti at_ ar ci ks).plain=[]:=by rw [aj.plain];simp [h1,h2,h3,h4,h5,h6,h7,h8,h9,h10,h11,h16]
     rw [hp] at HT;refine YS ?_;intro f1 f2 f3 f4 f5 f6 f7 f8 f9 f10 f11 f16;clear hp h1 h2 h3 h4 h5 h6 h7 h8 h9 h10 h11 h16 IK hle;go_wp2
     go_round
     case rel=>exact ⟨k+1,by omega,by go_num,by rw [YR.out,HT.out,List.append_nil]⟩
     case measure=>simp [intOf];omega
   ·have hkl:k=l.length:=by omega
    have hE:aj.aG (l.take k)=aj.aG l:=by rw [hkl,List.take_length]
    have HE:=hid hE;clear hkl hE;go_wp2;go_ret;exact ⟨by rw [<- HE.out];rfl,rfl⟩
end Go.Proofs.YtkfnkeflalcphaaGreatDoor

