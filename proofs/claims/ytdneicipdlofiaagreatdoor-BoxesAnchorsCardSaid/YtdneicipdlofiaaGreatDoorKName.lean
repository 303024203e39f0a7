/- Small laws on memory, used by the walks of this seat. Data in memory: what cells read as, whatever the types; kept while the blocks that are read stay. The document's data, as plain data and in memory. Plain functions on the document's data, and its cells for a walk. The contract of publisherref04.Plain. Contracts of chars.Space, Digit, Letter, Lower: what they are of a code point. Contracts of the code point readers of publisherref01 and of white space, over this seat's translation. The contract of publisherref01.at: the code point at a byte is the one that UTF-8 decoding gives. Contracts of publisherref01.Lower, in, Letter, bytes, Text. Contracts of publisherref01.at and publisherref01.Next: the code point at a byte is the one that UTF-8 decoding gives. Contracts of font.Width, font.Wide, publisherref37.Width and publisherref37.Wide: the plain widths. The contract of font.Wide: the plain width of a string. Contracts of publisherref37.among, wide, Width and Wide. Contracts of wrap.Center and publisherref38.Center. Contracts of publisherref38.Words and wrap.Words: both give the plain words of a string. Contracts of attr.letter, inName, wordEnd, Name. -/
import Derived.WalkLawsBesides
import Derived.Test.YtdneicipdlofiaaGreatDoorKPlFold
import Derived.Test.YtdneicipdlofiaaGreatDoorKPlKeep3
import Derived.Test.YtdneicipdlofiaaGreatDoorKShelf
set_option maxHeartbeats 8000000
set_option maxRecDepth 100000
open Go.Lib (hid)
namespace Go.Proofs.YtdneicipdlofiaaGreatDoor
open Go.RowKit.Below renaming refl->jox
open Nat renaming le_refl->joz,zero_le->jpj
open Bool renaming eq_iff_iff->jp3
open Go renaming World->js1,Value->js3
open Go.RowKit
theorem zY {B:Nat} {e:TypeId} {k:Nat} {v:js3} {n:Nat} {xs:List js3} {w w':js1} (h:w.ownsRow B e k v n xs) (hb:Below w.heap.size w w'):w'.ownsRow B e k v n xs:=
 h.kept (row:=none) ⟨hb.os,hb.tape,hb.output,hb.size,fun i hi _=>hb.block i hi⟩ (by cases v.ownBlock<;>simp)
theorem below_app {B:Nat} {w wr w1:js1} {e:TypeId} {k:Nat} {v:js3} {n:Nat} {xs:List js3} {o:Obj} (hbel:Below B w wr) (hB:B<=wr.heap.size) (hown:wr.ownsRow B e k v n xs) (hg:(wr.alloc o).grownBy w1 v.ownBlock):Below B w w1:=
 (hbel.alloc hB o).grown hg (by simp;omega) (fun j hj=>(hown.lt j hj).1)
theorem eZ {B:Nat} {a w:js1} (h:Below B a w) (q:Nat):Below B a (w.drewN q):=⟨h.os,h.tape,h.output,h.size,h.block⟩
theorem aP {w wr w1:js1} (h:Below w.heap.size w wr) (h1:Below wr.heap.size wr w1):Below w.heap.size w w1:=h.trans (h1.mono h.size)
theorem TD (w:js1) (cs:List js3) (T:TypeId):∀ j u,cs[j]?=some u->(w.alloc (.cells cs.toArray T)).cell? ((⟨w.heap.size,0,none⟩:Addr).add j)=some u:=by
 intro j u h;have e:((⟨w.heap.size,0,none⟩:Addr).add j)=⟨w.heap.size,j,none⟩:=by unfold Addr.add;split<;>simp_all
 rw [e];have hb:(w.alloc (.cells cs.toArray T)).heap[w.heap.size]?=some (.cells cs.toArray T):=by show (w.heap.push _)[w.heap.size]?=_;simp
 simp only [World.cell?,hb];simpa using h
theorem lu (w:js1) (v:js3) (T:TypeId):∀ j u,[v][j]?=some u->(w.alloc (.cells #[v] T)).cell? ((⟨w.heap.size,0,none⟩:Addr).add j)=some u:=TD w [v] T
theorem mG {w:js1} {B B':Nat} {e:TypeId} {k:Nat} {v:js3} {n:Nat} {xs:List js3} (h:w.ownsRow B e k v n xs) (hb:B'<=B):w.ownsRow B' e k v n xs:=by
 obtain ⟨h1,h2⟩:=h;refine ⟨h1,?_⟩;rcases h2 with h2 | ⟨g,cap,cur,r1,r2,r3⟩
 ·exact .inl h2
 ·exact .inr ⟨g,cap,cur,r1,Nat.le_trans hb r2,r3⟩
theorem eB {w:js1} {B:Nat} {e:TypeId} {k:Nat} {v:js3} {n:Nat} {xs:List js3} (h:w.ownsRow B e k v n xs) (hn:0<n):∃ g cap,v=.slice (some ⟨g,0,none⟩) n cap/\n<=cap:=by
 rcases h.2 with ⟨_,h2⟩ | ⟨g,cap,cur,r1,r2,r3,r4,_⟩
 ·omega
 ·exact ⟨g,cap,r1,r4⟩
theorem gP {a b c:js1} {row:Option Nat} (h:a.grownBy b row) (k:b.grownBy c row):a.grownBy c row:=
 ⟨k.os.trans h.os,k.tape.trans h.tape,k.output.trans h.output,Nat.le_trans h.size k.size,fun i hi hr=>(k.block i (Nat.lt_of_lt_of_le hi h.size) hr).trans (h.block i hi hr)⟩
theorem jJ {a b:js1} {row:Option Nat} (h:a.grownBy b row) (o:Obj):a.grownBy (b.alloc o) row:=
 gP h ⟨rfl,rfl,rfl,by simp,fun i hi _=>Below.heap_alloc _ _ _ hi⟩
theorem oJ {a b:js1} {row:Option Nat} (h:a.grownBy b row):a.grownBy b.drew row:=⟨h.os,h.tape,h.output,h.size,h.block⟩
theorem tH {a b:js1} {row:Option Nat} (h:a.grownBy b row) (q:Nat):a.grownBy (b.drewN q) row:=⟨h.os,h.tape,h.output,h.size,h.block⟩
theorem jY {w:js1} {b o:Nat} {v:js3} (h:w.cell? ⟨b,o,none⟩=some v):b<w.heap.size:=by
 refine Nat.lt_of_not_le fun hle=>?_
 have:w.heap[b]?=none:=by rw [Array.getElem?_eq_none_iff];exact hle
 simp [World.cell?,this] at h
theorem past {w:js1} {b off:Nat} {v:js3} (h:w.cell? ⟨b,off,none⟩=some v) (o:Obj):(w.alloc o).cell? ⟨b,off,none⟩=some v:=
 (World.cell?_of_block (w:=w) (a:=⟨b,off,none⟩) (Below.heap_alloc w o b (jY h))).trans h
def gQ (w:js1) (k:Nat) (v:js3) (n:Nat) (xs:List js3):Prop:=
 xs.length=n*k/\∃ a cap,v=.slice a n cap/\n<=cap/\cap<=maxLen/\(n=0\/∃ b off,a=some ⟨b,off,none⟩/\∀ j u,xs[j]?=some u->w.cell? ⟨b,off+j,none⟩=some u)
theorem gQ.bV {w:js1} {B:Nat} {e:TypeId} {k:Nat} {v:js3} {n:Nat} {xs:List js3} (h:w.ownsRow B e k v n xs):gQ w k v n xs:=by
 obtain ⟨h1,h2⟩:=h;refine ⟨h1,?_⟩;rcases h2 with ⟨rfl,rfl⟩ | ⟨g,cap,cur,rfl,hg,hb,hn,hm,hcs,hx⟩
 ·exact ⟨none,0,rfl,joz _,jpj _,.inl rfl⟩
 ·refine ⟨_,cap,rfl,hn,hm,.inr ⟨g,0,rfl,fun j u hu=>?_⟩⟩;have hown:w.ownsRow B e k (.slice (some ⟨g,0,none⟩) n cap) n xs:=⟨h1,.inr ⟨g,cap,cur,rfl,hg,hb,hn,hm,hcs,hx⟩⟩;have:=hown.cells rfl j u hu;rw [Nat.zero_add];rw [<- this];congr 1;unfold Addr.add;split<;>simp_all
theorem gQ.below {w w':js1} {k:Nat} {v:js3} {n:Nat} {xs:List js3} (h:gQ w k v n xs) (hb:Below w.heap.size w w'):gQ w' k v n xs:=by
 obtain ⟨h1,a,cap,h2,h3,h4,h5⟩:=h;refine ⟨h1,a,cap,h2,h3,h4,?_⟩;rcases h5 with h5 | ⟨b,off,h6,h7⟩
 ·exact .inl h5
 ·refine .inr ⟨b,off,h6,fun j u hu=>?_⟩;have hc:=h7 j u hu;have hlt:b<w.heap.size:=by
   refine Nat.lt_of_not_le fun hle=>?_
   have:w.heap[b]?=none:=by rw [Array.getElem?_eq_none_iff];exact hle
   simp [World.cell?,this] at hc
  rw [hb.cell (p:=⟨b,off+j,none⟩) hlt];exact hc
open Go.RowKit
inductive D where
 | int (k:IntKind) (n:Int)
 | bool (b:Bool)
 | str (s:ByteArray)
 | st (fs:List D)
 | sl (k:Nat) (l:List D)
mutual
def Rd (ok:Nat->Prop) (w:js1):D->List js3->Prop
 | .int k n,cs=>cs=[.int k n]
 | .bool b,cs=>cs=[.bool b]
 | .str s,cs=>cs=[.string s]
 | .st fs,cs=>∃ rows,aL ok w fs rows/\cs=rows.flatten
 | .sl k l,cs=>∃ a cap rows,cs=[.slice a l.length cap]/\l.length<=cap/\cap<=maxLen/\aL ok w l rows/\(∀ r∈rows,r.length=k) /\
   (l.length=0\/∃ b off,a=some ⟨b,off,none⟩/\ok b/\b<w.heap.size/\∀ j u,rows.flatten[j]?=some u->w.cell? ⟨b,off+j,none⟩=some u)
def aL (ok:Nat->Prop) (w:js1):List D->List (List js3)->Prop
 | [],rows=>rows=[]
 | d::ds,rows=>∃ r rs,rows=r::rs/\Rd ok w d r/\aL ok w ds rs
end
theorem iZ {w w':js1} {b:Nat} (h:w'.heap[b]?=w.heap[b]?) (o:Nat):w'.cell? ⟨b,o,none⟩=w.cell? ⟨b,o,none⟩:=World.cell?_of_block (a:=⟨b,o,none⟩) h
theorem Jl {w w':js1} {b:Nat} (h:w'.heap[b]?=w.heap[b]?) (hb:b<w.heap.size):b<w'.heap.size:=by rw [Array.getElem?_eq_getElem hb] at h;exact (Array.getElem?_eq_some_iff.1 h).1
theorem q16 (w:js1) (cs:List js3) (T:TypeId) (j:Nat) (u:js3) (h:cs[j]?=some u):(w.alloc (.cells cs.toArray T)).cell? ⟨w.heap.size,j,none⟩=some u:=by
 have:=TD w cs T j u h;have e:((⟨w.heap.size,0,none⟩:Addr).add j)=⟨w.heap.size,j,none⟩:=by unfold Addr.add;split<;>simp_all
 rwa [e] at this
theorem own_ne {w:js1} {B:Nat} {e:TypeId} {k:Nat} {v:js3} {n:Nat} {xs:List js3} {b:Nat} (h:w.ownsRow B e k v n xs) (hb:w.heap.size<=b):v.ownBlock≠some b:=fun e'=>by
 have:=(h.lt b e').2;omega
def J4 (ok ok':Nat->Prop) (w w':js1):Prop:=∀ b,ok b->b<w.heap.size->ok' b/\w'.heap[b]?=w.heap[b]?
mutual
theorem Rd.keep {ok ok':Nat->Prop} {w w':js1} (hs:J4 ok ok' w w'):∀ (d:D) (cs:List js3),Rd ok w d cs->Rd ok' w' d cs
 | .int _ _,_,h=>by unfold Rd at h ⊢;exact h
 | .bool _,_,h=>by unfold Rd at h ⊢;exact h
 | .str _,_,h=>by unfold Rd at h ⊢;exact h
 | .st fs,_,h=>by
  unfold Rd at h ⊢;obtain ⟨rows,hr,hc⟩:=h;exact ⟨rows,aL.keep hs fs rows hr,hc⟩
 | .sl k l,_,h=>by
  unfold Rd at h ⊢;obtain ⟨a,cap,rows,h1,h2,h3,h4,h5,h6⟩:=h;have h4':=aL.keep hs l rows h4;refine ⟨a,cap,rows,h1,h2,h3,h4',h5,?_⟩;rcases h6 with h6 | ⟨b,off,h7,h8,hb,h9⟩
  ·exact .inl h6
  ·obtain ⟨k1,k2⟩:=hs b h8 hb;refine .inr ⟨b,off,h7,k1,Jl k2 hb,fun j u hu=>by rw [iZ k2];exact h9 j u hu⟩
theorem aL.keep {ok ok':Nat->Prop} {w w':js1} (hs:J4 ok ok' w w'):∀ (l:List D) (rows:List (List js3)),aL ok w l rows->aL ok' w' l rows
 | [],_,h=>by unfold aL at h ⊢;exact h
 | d::ds,_,h=>by
  unfold aL at h ⊢;obtain ⟨r,rs,h1,h2,h3⟩:=h;exact ⟨r,rs,h1,Rd.keep hs d r h2,aL.keep hs ds rs h3⟩
end
theorem aL.len {ok:Nat->Prop} {w:js1}:∀ {l:List D} {rows:List (List js3)},aL ok w l rows->rows.length=l.length
 | [],_,h=>by unfold aL at h;simp [h]
 | d::ds,_,h=>by
  unfold aL at h;obtain ⟨r,rs,rfl,_,h3⟩:=h;simp [aL.len h3]
theorem aL.get {ok:Nat->Prop} {w:js1}:∀ {l:List D} {rows:List (List js3)},aL ok w l rows->∀ (i:Nat) (d:D),l[i]?=some d->∃ r,rows[i]?=some r/\Rd ok w d r
 | [],_,h,i,d,hd=>by simp at hd
 | x::xs,_,h,i,d,hd=>by
  unfold aL at h;obtain ⟨r,rs,rfl,h2,h3⟩:=h;cases i with
  | zero=>simp at hd;subst hd;exact ⟨r,rfl,h2⟩
  | succ i=>simp at hd;obtain ⟨r',h4,h5⟩:=aL.get h3 i d hd;exact ⟨r',by simpa using h4,h5⟩
theorem aL.app {ok:Nat->Prop} {w:js1}:∀ {l m:List D} {rows rows':List (List js3)},aL ok w l rows->aL ok w m rows'->aL ok w (l++m) (rows++rows')
 | [],_,_,_,h,h'=>by unfold aL at h;subst h;exact h'
 | d::ds,_,_,_,h,h'=>by
  unfold aL at h;obtain ⟨r,rs,rfl,h2,h3⟩:=h;show aL ok w (d::(ds++_)) _;unfold aL;exact ⟨r,rs++_,rfl,h2,aL.app h3 h'⟩
theorem aL.one {ok:Nat->Prop} {w:js1} {d:D} {r:List js3} (h:Rd ok w d r):aL ok w [d] [r]:=by unfold aL;exact ⟨r,[],rfl,h,by unfold aL;rfl⟩
theorem aL.none {ok:Nat->Prop} {w:js1}:aL ok w [] []:=by unfold aL;rfl
theorem aL.cons {ok:Nat->Prop} {w:js1} {d:D} {ds:List D} {r:List js3} {rs:List (List js3)} (h:Rd ok w d r) (hs:aL ok w ds rs):aL ok w (d::ds) (r::rs):=by unfold aL;exact ⟨r,rs,rfl,h,hs⟩
theorem qp (k:Nat):∀ (rows:List (List js3)),(∀ r∈rows,r.length=k)->rows.flatten.length=rows.length*k
 | [],_=>by simp
 | r::rs,h=>by
  rw [List.flatten_cons,List.length_append,qp k rs (fun x hx=>h x (by simp [hx])),h r (by simp),List.length_cons,Nat.add_mul];omega
theorem flat_get (k:Nat):∀ (rows:List (List js3)),(∀ r∈rows,r.length=k)->∀ (i j:Nat) (r:List js3) (u:js3),rows[i]?=some r->r[j]?=some u->rows.flatten[i*k+j]?=some u
 | [],_,i,j,r,u,h1,_=>by simp at h1
 | x::xs,h,i,j,r,u,h1,h2=>by
  have hx:=h x (by simp);rw [List.flatten_cons];cases i with
  | zero=>
   simp at h1;subst h1;have hj:j<x.length:=(List.getElem?_eq_some_iff.1 h2).1;rw [List.getElem?_append_left (by omega)];simpa using h2
  | succ i=>
   rw [List.getElem?_append_right (by rw [hx,Nat.add_mul];omega)];have e:(i+1)*k+j-x.length=i*k+j:=by rw [hx,Nat.add_mul];omega
   rw [e];exact flat_get k xs (fun y hy=>h y (by simp [hy])) i j r u (by simpa using h1) h2
structure rU (ok:Nat->Prop) (w:js1) (k:Nat) (l:List D) (a:Option Addr) (cap:Nat):Prop where
 le:l.length<=cap
 max:cap<=maxLen
 at_:0<l.length->∃ b off,a=some ⟨b,off,none⟩/\ok b/\b<w.heap.size/\∀ i d,l[i]?=some d->∃ r,Rd ok w d r/\r.length=k/\∀ j u,r[j]?=some u->w.cell? ⟨b,off+(i*k+j),none⟩=some u
theorem Rd.aC {ok:Nat->Prop} {w:js1} {k:Nat} {l:List D} {cs:List js3} (h:Rd ok w (.sl k l) cs):∃ a cap,cs=[.slice a l.length cap]/\rU ok w k l a cap:=by
 unfold Rd at h;obtain ⟨a,cap,rows,h1,h2,h3,h4,h5,h6⟩:=h;refine ⟨a,cap,h1,h2,h3,fun hp=>?_⟩;rcases h6 with h6 | ⟨b,off,h7,h8,hb,h9⟩
 ·omega
 ·refine ⟨b,off,h7,h8,hb,fun i d hd=>?_⟩;obtain ⟨r,hr,hrd⟩:=h4.get i d hd;exact ⟨r,hrd,h5 r (List.mem_of_getElem? hr),fun j u hu=>h9 _ u (flat_get k rows h5 i j r u hr hu)⟩
theorem Rd.lD {ok:Nat->Prop} {w:js1} {fs:List D} {cs:List js3} (h:Rd ok w (.st fs) cs):∃ rows,aL ok w fs rows/\cs=rows.flatten:=by unfold Rd at h;exact h
theorem Rd.zV {ok:Nat->Prop} {w:js1} {fs:List D} {rows:List (List js3)} (h:aL ok w fs rows):Rd ok w (.st fs) rows.flatten:=by unfold Rd;exact ⟨rows,h,rfl⟩
theorem aL.aD {ok:Nat->Prop} {w:js1} {d:D} {ds:List D} {rows:List (List js3)} (h:aL ok w (d::ds) rows):∃ r rs,rows=r::rs/\Rd ok w d r/\aL ok w ds rs:=by unfold aL at h;exact h
theorem aL.bY {ok:Nat->Prop} {w:js1} {rows:List (List js3)} (h:aL ok w [] rows):rows=[]:=by unfold aL at h;exact h
theorem Rd.ko {ok:Nat->Prop} {w:js1} {k:IntKind} {n:Int} {cs:List js3} (h:Rd ok w (.int k n) cs):cs=[.int k n]:=by unfold Rd at h;exact h
theorem Rd.nN {ok:Nat->Prop} {w:js1} {b:Bool} {cs:List js3} (h:Rd ok w (.bool b) cs):cs=[.bool b]:=by unfold Rd at h;exact h
theorem Rd.aY {ok:Nat->Prop} {w:js1} {s:ByteArray} {cs:List js3} (h:Rd ok w (.str s) cs):cs=[.string s]:=by unfold Rd at h;exact h
theorem Rd.vO (ok:Nat->Prop) (w:js1) (k:IntKind) (n:Int):Rd ok w (.int k n) [.int k n]:=by unfold Rd;rfl
theorem Rd.BI (ok:Nat->Prop) (w:js1) (b:Bool):Rd ok w (.bool b) [.bool b]:=by unfold Rd;rfl
theorem Rd.dM (ok:Nat->Prop) (w:js1) (s:ByteArray):Rd ok w (.str s) [.string s]:=by unfold Rd;rfl
theorem Rd.aR (ok:Nat->Prop) (w:js1) (k:Nat):Rd ok w (.sl k []) [.slice none 0 0]:=by unfold Rd;exact ⟨none,0,[],rfl,joz _,jpj _,aL.none,by simp,.inl rfl⟩
theorem Rd.xQ {ok:Nat->Prop} {w:js1} {B:Nat} {e:TypeId} {k:Nat} {l:List D} {v:js3} {rows:List (List js3)} (ho:w.ownsRow B e k v l.length rows.flatten) (h:aL ok w l rows) (hk:∀ r∈rows,r.length=k) (hok:∀ g,v.ownBlock=some g->ok g):Rd ok w (.sl k l) [v]:=by
 have hlt:=ho.lt;have hcl:∀ g cap,v=.slice (some ⟨g,0,none⟩) l.length cap->∀ j u,rows.flatten[j]?=some u->w.cell? ⟨g,0+j,none⟩=some u:=by rintro g cap rfl j u hu;rw [Nat.zero_add,<- ho.cells rfl j u hu];congr 1;unfold Addr.add;split<;>simp_all
 obtain ⟨h1,h2⟩:=ho;rcases h2 with ⟨rfl,hx⟩ | ⟨g,cap,cur,rfl,hg,hb,hn,hm,hcs,hx⟩
 ·unfold Rd;exact ⟨none,0,rows,by rw [hx],by omega,jpj _,h,hk,.inl hx⟩
 ·unfold Rd;exact ⟨_,cap,rows,rfl,hn,hm,h,hk,.inr ⟨g,0,rfl,hok g rfl,(hlt g rfl).2,hcl g cap rfl⟩⟩
def dZ (l:List ByteArray):D:=.sl 1 (l.map D.str)
theorem aL.strs {ok:Nat->Prop} {w:js1}:∀ (l:List ByteArray),aL ok w (l.map D.str) (l.map fun s=>[Value.string s])
 | []=>aL.none
 | s::l=>aL.cons (Rd.dM ok w s) (aL.strs l)
theorem kR:∀ (l:List ByteArray),(l.map fun s=>[Value.string s]).flatten=l.map Value.string
 | []=>rfl
 | s::l=>by simp [List.flatten_cons,kR l]
theorem aL.kP {ok:Nat->Prop} {w:js1}:∀ (l:List ByteArray) (rows:List (List js3)),aL ok w (l.map D.str) rows->rows=l.map fun s=>[Value.string s]
 | [],_,h=>by exact h.bY
 | s::l,_,h=>by
  obtain ⟨r,rs,rfl,h1,h2⟩:=h.aD;rw [h1.aY,aL.kP l rs h2];rfl
theorem Rd.sees {ok:Nat->Prop} {w:js1} {l:List ByteArray} {v:js3} (h:Rd ok w (dZ l) [v]):gQ w 1 v l.length (l.map Value.string):=by
 unfold dZ Rd at h;obtain ⟨a,cap,rows,h1,h2,h3,h4,h5,h6⟩:=h;rw [List.length_map] at *;have hr:=aL.kP l rows h4;subst hr;rw [kR] at h6;refine ⟨by simp,a,cap,by simpa using h1,h2,h3,?_⟩;rcases h6 with h6 | ⟨b,off,h7,_,_,h9⟩
 ·exact .inl h6
 ·exact .inr ⟨b,off,h7,h9⟩
theorem Rd.qH {ok:Nat->Prop} {w:js1} {B:Nat} {e:TypeId} {l:List ByteArray} {v:js3} (ho:w.ownsRow B e 1 v l.length (l.map Value.string)) (hok:∀ g,v.ownBlock=some g->ok g):Rd ok w (dZ l) [v]:=by refine Rd.xQ (rows:=l.map fun s=>[Value.string s]) (B:=B) (e:=e) ?_ (aL.strs l) (by simp) hok;rw [kR,List.length_map];exact ho
open Go.RowKit
structure Pr where
 key:ByteArray
 val:ByteArray
deriving DecidableEq
structure Ci where
 key:ByteArray
 pre:ByteArray
 suf:ByteArray
 bare:Bool
deriving DecidableEq
structure At where
 id:ByteArray
 cls:List ByteArray
 aJ:List Pr
deriving DecidableEq
inductive aj where
 | mk (kind:Int) (text dest title:ByteArray) (at_:At) (args:List ByteArray) (ji:List Ci) (kids:List aj)
inductive ah where
 | mk (kind level:Int) (info text dest title:ByteArray) (at_:At) (line:List aj) (kids:List ah)
def Pr.d (p:Pr):D:=.st [.str p.key,.str p.val]
def Ci.d (c:Ci):D:=.st [.str c.key,.str c.pre,.str c.suf,.bool c.bare]
def At.ds (a:At):List D:=[.str a.id,dZ a.cls,.sl 2 (a.aJ.map Pr.d)]
mutual
def aj.d:aj->D
 | .mk k t d ti a ar ci ks=>.st [.int .i64 k,.str t,.str d,.str ti,.st a.ds,dZ ar,.sl 4 (ci.map Ci.d),.sl 10 (aj.dl ks)]
def aj.dl:List aj->List D
 | []=>[]
 | x::l=>x.d::aj.dl l
end
theorem aj.pO:∀ (l:List aj),aj.dl l=l.map aj.d
 | []=>by unfold aj.dl;rfl
 | x::l=>by rw [aj.dl,aj.pO l];rfl
mutual
def ah.d:ah->D
 | .mk k lv i t d ti a li ks=>.st [.int .i64 k,.int .i64 lv,.str i,.str t,.str d,.str ti,.st a.ds,.sl 10 (li.map aj.d),.sl 11 (ah.dl ks)]
def ah.dl:List ah->List D
 | []=>[]
 | x::l=>x.d::ah.dl l
end
theorem ah.pO:∀ (l:List ah),ah.dl l=l.map ah.d
 | []=>by unfold ah.dl;rfl
 | x::l=>by rw [ah.dl,ah.pO l];rfl
def fK (l:List aj):D:=.sl 10 (l.map aj.d)
def om (l:List ah):D:=.sl 11 (l.map ah.d)
def Co (l:List Pr):D:=.sl 2 (l.map Pr.d)
def PE (l:List Ci):D:=.sl 4 (l.map Ci.d)
variable {ok:Nat->Prop} {w:js1}
theorem Pr.open_ {p:Pr} {cs:List js3} (h:Rd ok w p.d cs):cs=[.string p.key,.string p.val]:=by unfold Pr.d at h;obtain ⟨_,g0,rfl⟩:=h.lD;obtain ⟨_,_,rfl,h1,g1⟩:=g0.aD;obtain ⟨_,_,rfl,h2,g2⟩:=g1.aD;obtain rfl:=g2.bY;obtain rfl:=h1.aY;obtain rfl:=h2.aY;rfl
theorem Ci.open_ {p:Ci} {cs:List js3} (h:Rd ok w p.d cs):cs=[.string p.key,.string p.pre,.string p.suf,.bool p.bare]:=by unfold Ci.d at h;obtain ⟨_,g0,rfl⟩:=h.lD;obtain ⟨_,_,rfl,h1,g1⟩:=g0.aD;obtain ⟨_,_,rfl,h2,g2⟩:=g1.aD;obtain ⟨_,_,rfl,h3,g3⟩:=g2.aD;obtain ⟨_,_,rfl,h4,g4⟩:=g3.aD;obtain rfl:=g4.bY;obtain rfl:=h1.aY;obtain rfl:=h2.aY;obtain rfl:=h3.aY;obtain rfl:=h4.nN;rfl
theorem Pr.l6 (ok:Nat->Prop) (w:js1) (p:Pr):Rd ok w p.d [.string p.key,.string p.val]:=
 Rd.zV (rows:=[[.string p.key],[.string p.val]]) (.cons (Rd.dM _ _ _) (.cons (Rd.dM _ _ _) .none))
theorem Ci.l6 (ok:Nat->Prop) (w:js1) (p:Ci):Rd ok w p.d [.string p.key,.string p.pre,.string p.suf,.bool p.bare]:=
 Rd.zV (rows:=[[.string p.key],[.string p.pre],[.string p.suf],[.bool p.bare]]) (.cons (Rd.dM _ _ _) (.cons (Rd.dM _ _ _) (.cons (Rd.dM _ _ _) (.cons (Rd.BI _ _ _) .none))))
theorem Rd.mJ {k:Nat} {l:List D} {cs:List js3} (h:Rd ok w (.sl k l) cs):∃ v,cs=[v]/\Rd ok w (.sl k l) [v]:=by obtain ⟨a,cap,rfl,_⟩:=h.aC;exact ⟨_,rfl,h⟩
structure AtR (ok:Nat->Prop) (w:js1) (a:At) (vc vp:js3):Prop where
 cls:Rd ok w (dZ a.cls) [vc]
 aJ:Rd ok w (Co a.aJ) [vp]
theorem At.open_ {a:At} {cs:List js3} (h:Rd ok w (.st a.ds) cs):∃ vc vp,cs=[.string a.id,vc,vp]/\AtR ok w a vc vp:=by unfold At.ds at h;obtain ⟨_,g0,rfl⟩:=h.lD;obtain ⟨_,_,rfl,h1,g1⟩:=g0.aD;obtain ⟨_,_,rfl,h2,g2⟩:=g1.aD;obtain ⟨_,_,rfl,h3,g3⟩:=g2.aD;obtain ⟨vc,rfl,h2⟩:=Rd.mJ h2;obtain ⟨vp,rfl,h3⟩:=Rd.mJ h3;obtain rfl:=g3.bY;obtain rfl:=h1.aY;exact ⟨vc,vp,rfl,h2,h3⟩
theorem At.l6 {a:At} {vc vp:js3} (h:AtR ok w a vc vp):Rd ok w (.st a.ds) [.string a.id,vc,vp]:=
 Rd.zV (rows:=[[.string a.id],[vc],[vp]]) (.cons (Rd.dM _ _ _) (.cons h.cls (.cons h.aJ .none)))
structure Tj (ok:Nat->Prop) (w:js1) (at_:At) (args:List ByteArray) (ji:List Ci) (kids:List aj) (vc vp va vi vk:js3):Prop where
 at_:AtR ok w at_ vc vp
 args:Rd ok w (dZ args) [va]
 ji:Rd ok w (PE ji) [vi]
 kids:Rd ok w (fK kids) [vk]
theorem aj.open_ {k:Int} {t d ti:ByteArray} {a:At} {ar:List ByteArray} {ci:List Ci} {ks:List aj} {cs:List js3} (h:Rd ok w (aj.mk k t d ti a ar ci ks).d cs) : ∃ vc vp va vi vk,cs=[.int .i64 k,.string t,.string d,.string ti,.string a.id,vc,vp,va,vi,vk]/\Tj ok w a ar ci ks vc vp va vi vk:=by unfold aj.d at h;obtain ⟨_,g0,rfl⟩:=h.lD;obtain ⟨_,_,rfl,h1,g1⟩:=g0.aD;obtain ⟨_,_,rfl,h2,g2⟩:=g1.aD;obtain ⟨_,_,rfl,h3,g3⟩:=g2.aD;obtain ⟨_,_,rfl,h4,g4⟩:=g3.aD;obtain ⟨_,_,rfl,h5,g5⟩:=g4.aD;obtain ⟨_,_,rfl,h6,g6⟩:=g5.aD;obtain ⟨_,_,rfl,h7,g7⟩:=g6.aD;obtain ⟨_,_,rfl,h8,g8⟩:=g7.aD;obtain ⟨vc,vp,rfl,ha⟩:=At.open_ h5;obtain ⟨va,rfl,h6⟩:=Rd.mJ h6;obtain ⟨vi,rfl,h7⟩:=Rd.mJ h7;obtain ⟨vk,rfl,h8⟩:=Rd.mJ h8;rw [aj.pO] at h8;obtain rfl:=g8.bY;obtain rfl:=h1.ko;obtain rfl:=h2.aY;obtain rfl:=h3.aY;obtain rfl:=h4.aY;exact ⟨vc,vp,va,vi,vk,rfl,ha,h6,h7,h8⟩
theorem aj.l6 (k:Int) (t d ti:ByteArray) {a:At} {ar:List ByteArray} {ci:List Ci} {ks:List aj} {vc vp va vi vk:js3} (h:Tj ok w a ar ci ks vc vp va vi vk) : Rd ok w (aj.mk k t d ti a ar ci ks).d [.int .i64 k,.string t,.string d,.string ti,.string a.id,vc,vp,va,vi,vk]:=by
 unfold aj.d;rw [aj.pO];exact Rd.zV (rows:=[[.int .i64 k],[.string t],[.string d],[.string ti],[.string a.id,vc,vp],[va],[vi],[vk]])
  (.cons (Rd.vO _ _ _ _) (.cons (Rd.dM _ _ _) (.cons (Rd.dM _ _ _) (.cons (Rd.dM _ _ _) (.cons (At.l6 h.at_) (.cons h.args (.cons h.ji (.cons h.kids .none))))))))
structure rQ (ok:Nat->Prop) (w:js1) (at_:At) (line:List aj) (kids:List ah) (vc vp vl vk:js3):Prop where
 at_:AtR ok w at_ vc vp
 line:Rd ok w (fK line) [vl]
 kids:Rd ok w (om kids) [vk]
theorem ah.open_ {k lv:Int} {i t d ti:ByteArray} {a:At} {li:List aj} {ks:List ah} {cs:List js3} (h:Rd ok w (ah.mk k lv i t d ti a li ks).d cs) : ∃ vc vp vl vk,cs=[.int .i64 k,.int .i64 lv,.string i,.string t,.string d,.string ti,.string a.id,vc,vp,vl,vk]/\rQ ok w a li ks vc vp vl vk:=by unfold ah.d at h;obtain ⟨_,g0,rfl⟩:=h.lD;obtain ⟨_,_,rfl,h1,g1⟩:=g0.aD;obtain ⟨_,_,rfl,h2,g2⟩:=g1.aD;obtain ⟨_,_,rfl,h3,g3⟩:=g2.aD;obtain ⟨_,_,rfl,h4,g4⟩:=g3.aD;obtain ⟨_,_,rfl,h5,g5⟩:=g4.aD;obtain ⟨_,_,rfl,h6,g6⟩:=g5.aD;obtain ⟨_,_,rfl,h7,g7⟩:=g6.aD;obtain ⟨_,_,rfl,h8,g8⟩:=g7.aD;obtain ⟨_,_,rfl,h9,g9⟩:=g8.aD;obtain ⟨vc,vp,rfl,ha⟩:=At.open_ h7;obtain ⟨vl,rfl,h8⟩:=Rd.mJ h8;obtain ⟨vk,rfl,h9⟩:=Rd.mJ h9;rw [ah.pO] at h9;obtain rfl:=g9.bY;obtain rfl:=h1.ko;obtain rfl:=h2.ko;obtain rfl:=h3.aY;obtain rfl:=h4.aY;obtain rfl:=h5.aY;obtain rfl:=h6.aY;exact ⟨vc,vp,vl,vk,rfl,ha,h8,h9⟩
theorem ah.l6 (k lv:Int) (i t d ti:ByteArray) {a:At} {li:List aj} {ks:List ah} {vc vp vl vk:js3} (h:rQ ok w a li ks vc vp vl vk) : Rd ok w (ah.mk k lv i t d ti a li ks).d [.int .i64 k,.int .i64 lv,.string i,.string t,.string d,.string ti,.string a.id,vc,vp,vl,vk]:=by
 unfold ah.d;rw [ah.pO];exact Rd.zV (rows:=[[.int .i64 k],[.int .i64 lv],[.string i],[.string t],[.string d],[.string ti],[.string a.id,vc,vp],[vl],[vk]])
  (.cons (Rd.vO _ _ _ _) (.cons (Rd.vO _ _ _ _) (.cons (Rd.dM _ _ _) (.cons (Rd.dM _ _ _) (.cons (Rd.dM _ _ _) (.cons (Rd.dM _ _ _) (.cons (At.l6 h.at_) (.cons h.line (.cons h.kids .none)))))))))
open Go.RowKit
mutual
def aj.sz:aj->Nat
 | .mk _ _ _ _ _ _ _ ks=>1+aj.aX ks
def aj.aX:List aj->Nat
 | []=>0
 | x::l=>x.sz+aj.aX l
end
mutual
def ah.sz:ah->Nat
 | .mk _ _ _ _ _ _ _ _ ks=>1+ah.aX ks
def ah.aX:List ah->Nat
 | []=>0
 | x::l=>x.sz+ah.aX l
end
theorem aj.bP:∀ (l:List aj) (k:Nat) (x:aj),l[k]?=some x->x.sz<=aj.aX l
 | [],_,_,h=>by simp at h
 | y::l,0,x,h=>by simp at h;subst h;rw [aj.aX];omega
 | y::l,k+1,x,h=>by
  have:=aj.bP l k x (by simpa using h);rw [aj.aX];omega
theorem ah.bP:∀ (l:List ah) (k:Nat) (x:ah),l[k]?=some x->x.sz<=ah.aX l
 | [],_,_,h=>by simp at h
 | y::l,0,x,h=>by simp at h;subst h;rw [ah.aX];omega
 | y::l,k+1,x,h=>by
  have:=ah.bP l k x (by simpa using h);rw [ah.aX];omega
variable {ok:Nat->Prop} {w:js1}
structure gL (w:js1) (b o:Nat) (k:Int) (t d ti:ByteArray) (id:ByteArray) (vc vp va vi vk:js3):Prop where
 c0:w.cell? ⟨b,o,none⟩=some (.int .i64 k)
 c1:w.cell? ⟨b,o+1,none⟩=some (.string t)
 c2:w.cell? ⟨b,o+2,none⟩=some (.string d)
 c3:w.cell? ⟨b,o+3,none⟩=some (.string ti)
 c4:w.cell? ⟨b,o+4,none⟩=some (.string id)
 c5:w.cell? ⟨b,o+5,none⟩=some vc
 c6:w.cell? ⟨b,o+6,none⟩=some vp
 c7:w.cell? ⟨b,o+7,none⟩=some va
 c8:w.cell? ⟨b,o+8,none⟩=some vi
 c9:w.cell? ⟨b,o+9,none⟩=some vk
theorem gL.of {w:js1} {b o:Nat} {cs:List js3} {k:Int} {t d ti id:ByteArray} {vc vp va vi vk:js3} (hcs:cs=[.int .i64 k,.string t,.string d,.string ti,.string id,vc,vp,va,vi,vk]) (h:∀ j u,cs[j]?=some u->w.cell? ⟨b,o+j,none⟩=some u):gL w b o k t d ti id vc vp va vi vk:=by subst hcs;exact ⟨h 0 _ rfl,h 1 _ rfl,h 2 _ rfl,h 3 _ rfl,h 4 _ rfl,h 5 _ rfl,h 6 _ rfl,h 7 _ rfl,h 8 _ rfl,h 9 _ rfl⟩
theorem iL {l:List aj} {a:Option Addr} {cap:Nat} (h:rU ok w 10 (l.map aj.d) a cap) {k:Nat} {kd:Int} {t d ti:ByteArray} {at_:At} {ar:List ByteArray} {ci:List Ci} {ks:List aj} (hk:l[k]?=some (.mk kd t d ti at_ ar ci ks)) : ∃ b off vc vp va vi vk,a=some ⟨b,off,none⟩/\ok b/\b<w.heap.size/\gL w b (off+k*10) kd t d ti at_.id vc vp va vi vk/\Tj ok w at_ ar ci ks vc vp va vi vk:=by
 have hlt:k<l.length:=(List.getElem?_eq_some_iff.1 hk).1;obtain ⟨b,off,ha,hok,hb,hc⟩:=h.at_ (by simpa using Nat.lt_of_le_of_lt (jpj _) hlt)
 obtain ⟨r,hr,hl,hcell⟩:=hc k _ (by rw [List.getElem?_map,hk];rfl);obtain ⟨vc,vp,va,vi,vk,hcs,hR⟩:=aj.open_ hr;exact ⟨b,off,vc,vp,va,vi,vk,ha,hok,hb,gL.of hcs (fun j u hu=>by rw [Nat.add_assoc];exact hcell j u hu),hR⟩
structure dx (w:js1) (b o:Nat) (k lv:Int) (i t d ti:ByteArray) (id:ByteArray) (vc vp vl vk:js3):Prop where
 c0:w.cell? ⟨b,o,none⟩=some (.int .i64 k)
 c1:w.cell? ⟨b,o+1,none⟩=some (.int .i64 lv)
 c2:w.cell? ⟨b,o+2,none⟩=some (.string i)
 c3:w.cell? ⟨b,o+3,none⟩=some (.string t)
 c4:w.cell? ⟨b,o+4,none⟩=some (.string d)
 c5:w.cell? ⟨b,o+5,none⟩=some (.string ti)
 c6:w.cell? ⟨b,o+6,none⟩=some (.string id)
 c7:w.cell? ⟨b,o+7,none⟩=some vc
 c8:w.cell? ⟨b,o+8,none⟩=some vp
 c9:w.cell? ⟨b,o+9,none⟩=some vl
 c10:w.cell? ⟨b,o+10,none⟩=some vk
theorem dx.of {w:js1} {b o:Nat} {cs:List js3} {k lv:Int} {i t d ti id:ByteArray} {vc vp vl vk:js3} (hcs:cs=[.int .i64 k,.int .i64 lv,.string i,.string t,.string d,.string ti,.string id,vc,vp,vl,vk]) (h:∀ j u,cs[j]?=some u->w.cell? ⟨b,o+j,none⟩=some u):dx w b o k lv i t d ti id vc vp vl vk:=by subst hcs;exact ⟨h 0 _ rfl,h 1 _ rfl,h 2 _ rfl,h 3 _ rfl,h 4 _ rfl,h 5 _ rfl,h 6 _ rfl,h 7 _ rfl,h 8 _ rfl,h 9 _ rfl,h 10 _ rfl⟩
theorem dH {l:List ah} {a:Option Addr} {cap:Nat} (h:rU ok w 11 (l.map ah.d) a cap) {k:Nat} {kd lv:Int} {i t d ti:ByteArray} {at_:At} {li:List aj} {ks:List ah} (hk:l[k]?=some (.mk kd lv i t d ti at_ li ks)) : ∃ b off vc vp vl vk,a=some ⟨b,off,none⟩/\ok b/\b<w.heap.size/\dx w b (off+k*11) kd lv i t d ti at_.id vc vp vl vk/\rQ ok w at_ li ks vc vp vl vk:=by
 have hlt:k<l.length:=(List.getElem?_eq_some_iff.1 hk).1;obtain ⟨b,off,ha,hok,hb,hc⟩:=h.at_ (by simpa using Nat.lt_of_le_of_lt (jpj _) hlt)
 obtain ⟨r,hr,hl,hcell⟩:=hc k _ (by rw [List.getElem?_map,hk];rfl);obtain ⟨vc,vp,vl,vk,hcs,hR⟩:=ah.open_ hr;exact ⟨b,off,vc,vp,vl,vk,ha,hok,hb,dx.of hcs (fun j u hu=>by rw [Nat.add_assoc];exact hcell j u hu),hR⟩
open Go.RowKit
set_option linter.unusedVariables false
set_option linter.unusedSimpArgs false
open Go.RowKit
theorem E8 {a b:Bool} (h:a=b):Ending.returned (.bool a)=.returned (.bool b):=by rw [h]
theorem jT {a b:Int} (h:a=b):Ending.returned (.int .i64 a)=.returned (.int .i64 b):=by rw [h]
theorem DL (c:Nat) (w:js1) (hc:c<=1114111) : Calls Tryz.prog 256 #[.int .i64 (c:Int)] w fun e w'=>e=.returned (.bool (YA c))/\w=w':=by
 go_enter Tryz.func256,Tryz.ntmps256;go_wp2;all_goals
  go_ret;refine ⟨E8 ?_,rfl⟩;unfold YA
  (try simp only [beq_iff_eq,beq_eq_false_iff_ne,ne_eq] at *)
  rw [jp3];simp;omega
theorem Fa (c:Nat) (w:js1) (hc:c<=1114111) : Calls Tryz.prog 239 #[.int .i64 (c:Int)] w fun e w'=>e=.returned (.bool (Py c))/\w=w':=by
 go_enter Tryz.func239,Tryz.ntmps239;go_wp2;all_goals
  go_ret;refine ⟨E8 ?_,rfl⟩;unfold Py ql;rw [jp3];simp
  (try omega)
theorem Cy (c:Nat) (w:js1) (hc:c<=1114111) : Calls Tryz.prog 238 #[.int .i64 (c:Int)] w fun e w'=>e=.returned (.bool (qX c))/\w=w':=by
 go_enter Tryz.func238,Tryz.ntmps238;go_wp2;all_goals
  go_ret;refine ⟨E8 ?_,rfl⟩;unfold qX ql
  (try simp only [beq_iff_eq,beq_eq_false_iff_ne,ne_eq] at *)
  simp;omega
theorem DN (c:Nat) (w:js1) (hc:c<=1114111) : Calls Tryz.prog 276 #[.int .i64 (c:Int)] w fun e w'=>e=.returned (.int .i64 (jX c:Nat))/\w=w':=by
 go_enter Tryz.func276,Tryz.ntmps276;go_wp2;all_goals
  go_ret;refine ⟨jT ?_,rfl⟩;unfold jX
  (try simp only [bne_iff_ne,bne_eq_false_iff_eq,ne_eq] at *)
  (repeat' split)<;>omega
open Go.RowKit
theorem TH {k:IntKind} {a b:Int} (h:a=b):Ending.returned (.int k a)=.returned (.int k b):=by rw [h]
theorem Mh (c:Int) (w:js1) : Calls Tryz.prog 256 #[.int .i64 c] w fun e w'=>e=.returned (.bool (c==32||c==10))/\w=w':=by
 by_cases h:(c==32)=true
 ·go_enter Tryz.func256,Tryz.ntmps256;go_wp2;go_ret;exact ⟨by simp [h],rfl⟩
 ·have h':(c==32)=false:=by simpa using h
  go_enter Tryz.func256,Tryz.ntmps256;go_wp2;go_ret;exact ⟨by simp [h'],rfl⟩
open Go.RowKit
open Go.RowKit
open Go.RowKit
open Go.RowKit
def TabAt (w:js1):Prop:=1<w.heap.size/\∀ k,k<95->w.cell? ⟨1,k,none⟩=some (.int .u8 ((lM.getD k 0:Nat):Int))
theorem TabAt.below {w w':js1} (h:TabAt w) (hb:Below w.heap.size w w'):TabAt w':=
 ⟨Nat.lt_of_lt_of_le h.1 hb.size,fun k hk=>by rw [hb.cell (p:=⟨1,k,none⟩) h.1];exact h.2 k hk⟩
def uP (c lo hi:Int):Bool:=decide (lo<=c)&&decide (c<=hi)
theorem X3 (p:Nat) (c lo hi:Int) (w:js1) (hc:w.cell? ⟨p,0,none⟩=some (.int .i64 c)) : Calls Tryz.prog 258 #[.int .i64 lo,.int .i64 hi,.pointer (some ⟨p,0,none⟩)] w fun e w'=>e=.returned (.bool (uP c lo hi))/\w=w':=by
 by_cases h1:lo<=c
 ·by_cases h2:c<=hi
  ·have hv:uP c lo hi=true:=by simp [uP,h1,h2]
   rw [hv];go_enter Tryz.func258,Tryz.ntmps258;go_wp2;go_ret;exact ⟨by simp,rfl⟩
  ·have hv:uP c lo hi=false:=by simp [uP,h2]
   rw [hv];go_enter Tryz.func258,Tryz.ntmps258;go_wp2;go_ret;exact ⟨by simp,rfl⟩
 ·have hv:uP c lo hi=false:=by simp [uP,h1]
  rw [hv];go_enter Tryz.func258,Tryz.ntmps258;go_wp2;go_ret;exact ⟨by simp,rfl⟩
theorem Mi (c:Nat) (w:js1) (hc:c<=1114111) (ht:TabAt w) : Calls Tryz.prog 223 #[.int .i64 c] w fun e w'=>e=.returned (.int .i64 (iG c:Nat))/\Below w.heap.size w w':=by
 have hb1:Below w.heap.size w (w.alloc (.cells #[.int .i64 c] 3)):=(jox _ _).alloc (joz _) _;have IN:=hid (fun lo hi=>X3 w.heap.size c lo hi (w.alloc (.cells #[.int .i64 c] 3)) (by simp [go_sem]));have HT:=hid ht;clear ht;by_cases h1:c<32
 ·rw [ny c (.inl h1)];clear hb1;go_enter Tryz.func223,Tryz.ntmps223;go_wp2;go_ret;exact ⟨rfl,(jox _ _).alloc (joz _) _⟩
 by_cases h2:c=127
 ·rw [ny c (.inr (.inl h2))];have e1:((c:Int)==127)=true:=by simp;omega
  have H2:=hid h2;clear h2 hb1;go_enter Tryz.func223,Tryz.ntmps223;go_wp2;go_ret;exact ⟨rfl,(jox _ _).alloc (joz _) _⟩
 have e1:((c:Int)==127)=false:=by simp;omega
 by_cases h3:c<127
 ·rw [C8 c (by omega) h3];have hi:uP c 55296 57343=false:=by simp [uP];omega
  have hg:=HT.out.1;have hcell:=HT.out.2 (c-32) (by omega);have hle:=FE ⟨c-32,by omega⟩;simp only at hle;generalize lM.getD (c-32) 0=y at *;have k1:(0:Int)<=(c:Int)-32:=by omega
  have k2:(c:Int)-32<95:=by omega
  have k3:((c:Int)-32).toNat=c-32:=by omega
  have k4:(32:Int)<=(c:Int):=by omega
  have hy:wrap64 (y:Int)=(y:Int):=IntWalk.wrap64_in _ ⟨by omega,by omega⟩;clear hb1 HT;go_enter Tryz.func223,Tryz.ntmps223;go_wp2_with fail
  refine (IN.out _ _).mono ?_;rintro e w' ⟨rfl,rfl⟩;go_wp2;go_ret;exact ⟨rfl,(jox _ _).alloc (joz _) _⟩
 cases hi:uP c 55296 57343
 ·have hns:¬ (55296<=c/\c<=57343):=by simp [uP] at hi;omega
  rw [FH c (by omega) hns hc];clear hb1 HT;cases j0:uP c 4352 4447
  rotate_left
  ·have hw:iK c=true:=by simp [uP] at j0;simp [iK];omega
   rw [if_pos hw];clear hw;go_enter Tryz.func223,Tryz.ntmps223
   iterate 2 (go_wp2_with fail;refine (IN.out _ _).mono ?_;rintro e w' ⟨rfl,rfl⟩)
   go_wp2;go_ret;exact ⟨rfl,(jox _ _).alloc (joz _) _⟩
  cases j1:uP c 11904 42191
  rotate_left
  ·have hw:iK c=true:=by simp [uP] at j1;simp [iK];omega
   rw [if_pos hw];clear hw;go_enter Tryz.func223,Tryz.ntmps223
   iterate 3 (go_wp2_with fail;refine (IN.out _ _).mono ?_;rintro e w' ⟨rfl,rfl⟩)
   go_wp2;go_ret;exact ⟨rfl,(jox _ _).alloc (joz _) _⟩
  cases j2:uP c 44032 55203
  rotate_left
  ·have hw:iK c=true:=by simp [uP] at j2;simp [iK];omega
   rw [if_pos hw];clear hw;go_enter Tryz.func223,Tryz.ntmps223
   iterate 4 (go_wp2_with fail;refine (IN.out _ _).mono ?_;rintro e w' ⟨rfl,rfl⟩)
   go_wp2;go_ret;exact ⟨rfl,(jox _ _).alloc (joz _) _⟩
  cases j3:uP c 63744 64255
  rotate_left
  ·have hw:iK c=true:=by simp [uP] at j3;simp [iK];omega
   rw [if_pos hw];clear hw;go_enter Tryz.func223,Tryz.ntmps223
   iterate 5 (go_wp2_with fail;refine (IN.out _ _).mono ?_;rintro e w' ⟨rfl,rfl⟩)
   go_wp2;go_ret;exact ⟨rfl,(jox _ _).alloc (joz _) _⟩
  cases j4:uP c 65072 65103
  rotate_left
  ·have hw:iK c=true:=by simp [uP] at j4;simp [iK];omega
   rw [if_pos hw];clear hw;go_enter Tryz.func223,Tryz.ntmps223
   iterate 6 (go_wp2_with fail;refine (IN.out _ _).mono ?_;rintro e w' ⟨rfl,rfl⟩)
   go_wp2;go_ret;exact ⟨rfl,(jox _ _).alloc (joz _) _⟩
  cases j5:uP c 65281 65376
  rotate_left
  ·have hw:iK c=true:=by simp [uP] at j5;simp [iK];omega
   rw [if_pos hw];clear hw;go_enter Tryz.func223,Tryz.ntmps223
   iterate 7 (go_wp2_with fail;refine (IN.out _ _).mono ?_;rintro e w' ⟨rfl,rfl⟩)
   go_wp2;go_ret;exact ⟨rfl,(jox _ _).alloc (joz _) _⟩
  have hw:¬ iK c=true:=by simp [uP] at j0 j1 j2 j3 j4 j5;simp [iK];omega
  rw [if_neg hw];clear hw;go_enter Tryz.func223,Tryz.ntmps223
  iterate 7 (go_wp2_with fail;refine (IN.out _ _).mono ?_;rintro e w' ⟨rfl,rfl⟩)
  go_wp2;go_ret;exact ⟨rfl,(jox _ _).alloc (joz _) _⟩
 ·have hs:55296<=c/\c<=57343:=by simp [uP] at hi;omega
  rw [ny c (.inr (.inr (.inl hs)))];clear hb1 HT hs;go_enter Tryz.func223,Tryz.ntmps223;go_wp2_with fail
  refine (IN.out _ _).mono ?_;rintro e w' ⟨rfl,rfl⟩;go_wp2;go_ret;exact ⟨rfl,(jox _ _).alloc (joz _) _⟩
open Go.RowKit
theorem jc (s:ByteArray) (w:js1) (hs2:s.size<=1099511627776) (ht:TabAt w) : Calls Tryz.prog 182 #[.string s] w fun e w'=>e=.returned (.int .i64 (dA s:Nat))/\Below w.heap.size w w':=by
 have HV:Hid (Nh s s.size 0=dA s):=rfl;generalize dA s=V at *;have HT:=hid ht;clear ht;go_enter Tryz.func182,Tryz.ntmps182;go_wp2
 go_loopw [3] (fun vs wr=>∃ k f sum:Nat,k<=s.size/\s.size<=k+f/\sum<=100*k/\sum+Nh s f k=V/\vs=.int .i64 sum/\wr.heap[w.heap.size]?=some (.stringIter s k)/\Below w.heap.size w wr) (fun _ wr=>s.size-wr.iterPos w.heap.size)
 case atStart=>
  refine ⟨0,s.size,0,jpj _,by omega,by omega,by simpa using HV.out,rfl,?_,?_⟩
  ·exact World.iter_heap w s 0
  ·exact (jox _ w).alloc (joz _) _
 case round=>
  obtain ⟨k,f,sum,h1,h2,h3,h4,rfl,hit,hbel⟩:=hrel;have H4:=hid h4;clear h4;have hsz:w.heap.size<wr.heap.size:=(Array.getElem?_eq_some_iff.1 hit).1;by_cases hlt:k<s.size
  ·have hnx:∀ ty,(Instr.next (.pointer (some ⟨w.heap.size,0,none⟩)) true ty).run Tryz.prog wr=_:=fun ty=>Lib.run_next_any_at wr w.heap.size s k ty hit hlt
   have hd:=Iz s k hlt;have hw:=Lib.width_pos s k;have hr:=Lib.rune_le s k;have hon:=hid (FI s (f-1) k hlt);rw [show f-1+1=f from by omega] at hon;have hit2:=Lib.iterAt_heap wr w.heap.size s k (k+(Utf8.decode s k).2) hit;have lU:=Lib.below_iterAt hbel (k:=w.heap.size) (joz _) s (k+(Utf8.decode s k).2);generalize Utf8.decode s k=d at *;obtain ⟨d1,d2⟩:=d;simp only at hd hw hr hnx hit2 lU;have hle:=Bb d1;have hwr:wrap64 (d1:Int)=d1:=IntWalk.wrap64_in _ ⟨by omega,by omega⟩;have WI:=hid (Mi d1 (wr.iterAt w.heap.size s (k+d2)) hr (HT.out.below lU));have pQ:=hid hit2;have HIT:=hid hit;generalize iG d1=y at *;clear hit hit2;go_wp2_with fail
   refine WI.out.mono ?_;rintro e w1 ⟨rfl,hb1⟩;have hit3:Hid (w1.heap[w.heap.size]?=some (.stringIter s (k+d2))):=by show w1.heap[w.heap.size]?=_;rw [hb1.block w.heap.size (by rw [Lib.iterAt_size];exact hsz)];exact pQ.out
   have je:=aP lU hb1;clear hnx hwr;go_wp2;go_roundw;case rel=>exact ⟨k+d2,f-1,sum+y,by omega,by omega,by omega,by rw [<- H4.out,hon.out];omega,by go_num,hit3.out,je⟩
   case measure=>
    simp only [World.iterPos,hit3.out,HIT.out];omega
  ·have hnx:∀ ty,(Instr.next (.pointer (some ⟨w.heap.size,0,none⟩)) true ty).run Tryz.prog wr=_:=fun ty=>Lib.run_next_end_at wr w.heap.size s k ty hit hlt
   have hE:=hid (C9 s f k hlt);clear hit;go_wp2;go_ret;exact ⟨TH (by have:=H4.out;rw [hE.out] at this;omega),hbel⟩
open Go.RowKit
open Go.RowKit
theorem J2:dA ⟨#[32]⟩=30:=by decide +kernel
open Go.RowKit
theorem ku:(Tryz.prog.info? 9).map (fun i=>(i.zero,i.size,i.bytes))=some (some (.string ByteArray.empty),1,16):=by kernel_rfl
theorem Ya (W:js1) (x:Nat) (hx:x<=1114111):FnGives Tryz.prog 255 #[] #[encR x] (.bool (nA x)) W:=by
 unfold FnGives;show Calls Tryz.prog 255 #[.int .i32 x] W _;have hx2:wrap64 (x:Int)=x:=IntWalk.wrap64_in _ ⟨by omega,by omega⟩;have S:=hid (Mh x W);go_enter Tryz.func255,Tryz.ntmps255;go_wp2_with fail
 refine S.out.mono ?_;rintro e w' ⟨rfl,rfl⟩;go_wp2;go_ret;exact ⟨rfl,0,rfl⟩
theorem Ac (s:ByteArray) (w:js1) (hs:s.size<=1048576) : Calls Tryz.prog 221 #[.string s] w fun e w'=>∃ v,e=.returned v/\w'.ownsRow w.heap.size 9 1 v (fJ s).length ((fJ s).map Value.string)/\Below w.heap.size w w':=by
 have F:=hid (Tryz.strings_FieldsFunc_runes 255 #[] (fun _ _=>by kernel_rfl) nA s w (by omega) (fun W x hx _=>Ya W x hx));rw [Da] at F;go_enter Tryz.func221,Tryz.ntmps221;go_wp2_with fail
 refine F.out.mono ?_;rintro e w' ⟨A,rfl,h1,h2,h3⟩;go_wp2;go_ret;exact ⟨_,rfl,h2,h3⟩
open Go.RowKit
def jI (c:Nat):Bool:=ql c 97 122||ql c 65 90
def Rb (c:Nat):Bool:=(decide (c=45)||decide (c=95)||decide (c=46)||decide (c=58))||(jI c||ql c 48 57)
theorem um (c:Nat) (w:js1) (hc:c<256) : Calls Tryz.prog 102 #[.int .u8 (c:Int)] w fun e w'=>e=.returned (.bool (jI c))/\w=w':=by
 go_enter Tryz.func102,Tryz.ntmps102;go_wp2;all_goals
  go_ret;refine ⟨E8 ?_,rfl⟩;unfold jI ql;rw [jp3];simp
  (try omega)
theorem xR (c:Nat) (w:js1) (hc:c<256) : Calls Tryz.prog 145 #[.int .u8 (c:Int)] w fun e w'=>e=.returned (.bool (Rb c))/\w=w':=by
 have LT:=hid (fun w=>um c w hc);by_cases h:c=45\/c=95\/c=46\/c=58
 ·have hv:Rb c=true:=by unfold Rb;rcases h with h | h | h | h<;>simp [h]
  rw [hv];clear hv;rcases h with rfl | rfl | rfl | rfl
  all_goals
   go_enter Tryz.func145,Tryz.ntmps145;go_wp2;go_ret;exact ⟨rfl,rfl⟩
 ·have e1:((c:Int)==45)=false:=by rw [beq_eq_false_iff_ne];omega
  have e2:((c:Int)==95)=false:=by rw [beq_eq_false_iff_ne];omega
  have e3:((c:Int)==46)=false:=by rw [beq_eq_false_iff_ne];omega
  have e4:((c:Int)==58)=false:=by rw [beq_eq_false_iff_ne];omega
  have hv:Rb c=(jI c||ql c 48 57):=by unfold Rb;rw [show (decide (c=45)||decide (c=95)||decide (c=46)||decide (c=58))=false by simp;omega];rfl
  have HV:=hid hv;generalize Rb c=V at *;clear hv h;cases hl:jI c with
  | true=>
   rw [hl] at LT;go_enter Tryz.func145,Tryz.ntmps145;go_wp2_with fail
   refine (LT.out _).mono ?_;rintro e w1 ⟨rfl,rfl⟩;go_wp2;go_ret;exact ⟨by rw [HV.out,hl];rfl,rfl⟩
  | false=>
   rw [hl] at LT;rw [hl] at HV;by_cases h48:48<=c
   ·have q1:decide ((48:Int)<=(c:Int))=true:=by simp;omega
    go_enter Tryz.func145,Tryz.ntmps145;go_wp2_with fail
    refine (LT.out _).mono ?_;rintro e w1 ⟨rfl,rfl⟩;go_wp2;go_ret;refine ⟨?_,rfl⟩;rw [HV.out];refine E8 ?_;rw [jp3];simp [ql];omega
   ·have q1:decide ((48:Int)<=(c:Int))=false:=by simp;omega
    go_enter Tryz.func145,Tryz.ntmps145;go_wp2_with fail
    refine (LT.out _).mono ?_;rintro e w1 ⟨rfl,rfl⟩;go_wp2;go_ret;refine ⟨?_,rfl⟩;rw [HV.out];refine E8 ?_;rw [jp3];simp [ql];omega
def fP (c:UInt8):Bool:=Rb c.toNat
theorem sS (p:UInt8->Bool):∀ (l:List UInt8) (k:Nat),k<=l.length->(∀ j x,j<k->l[j]?=some x->p x=true)->(∀ x,l[k]?=some x->p x=false)->(l.takeWhile p).length=k
 | [],k,h,_,_=>by simp at h;subst h;rfl
 | x::l,0,_,_,h2=>by rw [List.takeWhile_cons,h2 x rfl];rfl
 | x::l,k+1,h,h1,h2=>by
  rw [List.takeWhile_cons,h1 0 x (by omega) rfl];simp;exact sS p l k (by simpa using h) (fun j y hj hy=>h1 (j+1) y (by omega) (by simpa using hy)) (fun y hy=>h2 y (by simpa using hy))
def Bc (s:ByteArray):Nat:=(s.data.toList.takeWhile fP).length
theorem fF (s:ByteArray) (k:Nat) (h:k<s.size):s.data.toList[k]?=some s[k]:=by rw [List.getElem?_eq_getElem (by simpa using h)];rfl
theorem FJ (s:ByteArray) (w:js1) (hs:s.size<=1000000000) : Calls Tryz.prog 103 #[.string s,.int .i64 0] w fun e w'=>e=.returned (.int .i64 (Bc s:Nat))/\w=w':=by
 obtain ⟨V,hV⟩:∃ V,V=Bc s:=⟨_,rfl⟩;rw [<- hV];have HV:=hid hV;clear hV;go_enter Tryz.func103,Tryz.ntmps103;go_wp2
 go_loop [1] (fun vi=>∃ k:Nat,k<=s.size/\vi=.int .i64 k/\∀ j x,j<k->s.data.toList[j]?=some x->fP x=true) (fun i=>s.size-(intOf i).toNat)
 case atStart=>exact ⟨0,jpj _,rfl,fun j x hj=>by omega⟩
 case round=>
  obtain ⟨k,hk,rfl,hall⟩:=hrel;have HA:=hid hall;clear hall;by_cases hlt:k<s.size
  ·have hgl:=UInt8.toNat_lt s[k];have IN:=hid (fun w=>xR s[k].toNat w hgl);have HG:=hid (fF s k hlt);cases hn:Rb s[k].toNat with
   | true=>
    rw [hn] at IN;have HN:=hid hn;clear hn;go_wp2_with fail
    refine (IN.out _).mono ?_;rintro e w1 ⟨rfl,rfl⟩;go_wp2
    go_round
    case rel=>
     refine ⟨k+1,by omega,by go_num,fun j x hj hx=>?_⟩;rcases Nat.lt_or_ge j k with h | h
     ·exact HA.out j x h hx
     ·have:j=k:=by omega
      subst this;rw [HG.out] at hx;obtain rfl:=Option.some.inj hx;exact HN.out
    case measure=>simp [intOf];omega
   | false=>
    rw [hn] at IN;have hw:V=k:=by rw [HV.out];exact sS fP _ k (by simpa using hk) HA.out (fun x hx=>by rw [HG.out] at hx;obtain rfl:=Option.some.inj hx;exact hn)
    have HW:=hid hw;clear hn hw;go_wp2_with fail
    refine (IN.out _).mono ?_;rintro e w1 ⟨rfl,rfl⟩;go_wp2;go_ret;exact ⟨by rw [HW.out];rfl,rfl⟩
  ·have hw:V=k:=by
    rw [HV.out];refine sS fP _ k (by simpa using hk) HA.out (fun x hx=>?_);have:=(List.getElem?_eq_some_iff.1 hx).1;have e:s.data.toList.length=s.size:=by simp
    omega
   have HW:=hid hw;clear hw;go_wp2;go_ret;exact ⟨by rw [HW.out];rfl,rfl⟩
def fO (s:ByteArray):Bool:=decide (1<=s.size)&&decide (s.size<=60)&&(match s.data.toList with | []=>false | c::_=>jI c.toNat)&&decide (Bc s=s.size)
theorem MV (s:ByteArray) (w:js1) (hs:s.size<=1000000000) : Calls Tryz.prog 54 #[.string s] w fun e w'=>e=.returned (.bool (fO s))/\w=w':=by
 by_cases h0:s.size=0
 ·have hv:fO s=false:=by unfold fO;simp [h0]
  rw [hv];have e0:((s.size:Int)==0)=true:=by simp [h0]
  clear hv h0;go_enter Tryz.func54,Tryz.ntmps54;go_wp2;go_ret;exact ⟨rfl,rfl⟩
 have e0:((s.size:Int)==0)=false:=by rw [beq_eq_false_iff_ne];omega
 by_cases h60:60<s.size
 ·have hv:fO s=false:=by unfold fO;simp;omega
  rw [hv];have e1:decide ((60:Int)<(s.size:Int))=true:=by simp;omega
  clear hv;go_enter Tryz.func54,Tryz.ntmps54;go_wp2;go_ret;exact ⟨rfl,rfl⟩
 have e1:decide ((60:Int)<(s.size:Int))=false:=by simp;omega
 have hp:0<s.size:=by omega
 have hg:=fF s 0 hp;obtain ⟨c,hc⟩:∃ c,s[0]=c:=⟨_,rfl⟩;rw [hc] at hg;have hcl:=UInt8.toNat_lt c;have LT:=hid (fun w=>um c.toNat w hcl);have WE:=hid (fun w=>FJ s w hs);have hl:s.data.toList=c::s.data.toList.tail:=by
  cases h:s.data.toList with
  | nil=>rw [h] at hg;simp at hg
  | cons a l=>rw [h] at hg;simp at hg;rw [hg];rfl
 have hv:fO s=(jI c.toNat&&decide (Bc s=s.size)):=by unfold fO;rw [hl,decide_eq_true (show 1<=s.size by omega),decide_eq_true (show s.size<=60 by omega)];rfl
 have HV:=hid hv;generalize fO s=V at *;generalize Bc s=E at *;clear hv hl hg;cases hlt:jI c.toNat with
 | false=>
  rw [hlt] at LT;rw [hlt] at HV;go_enter Tryz.func54,Tryz.ntmps54;go_wp2_with fail
  refine (LT.out _).mono ?_;rintro e w1 ⟨rfl,rfl⟩;go_wp2;go_ret;exact ⟨by rw [HV.out];rfl,rfl⟩
 | true=>
  rw [hlt] at LT;rw [hlt] at HV;go_enter Tryz.func54,Tryz.ntmps54;go_wp2_with fail
  refine (LT.out _).mono ?_;rintro e w1 ⟨rfl,rfl⟩;go_wp2_with fail
  refine (WE.out _).mono ?_;rintro e w1 ⟨rfl,rfl⟩;go_wp2;go_ret;refine ⟨?_,rfl⟩;rw [HV.out];refine E8 ?_;rw [jp3];simp
  (try omega)
end Go.Proofs.YtdneicipdlofiaaGreatDoor

