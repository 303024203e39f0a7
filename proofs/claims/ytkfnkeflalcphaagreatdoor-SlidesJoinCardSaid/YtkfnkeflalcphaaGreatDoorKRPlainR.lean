/- Small laws on memory, used by the walks of this seat. Data in memory: what cells read as, whatever the types; kept while the blocks that are read stay. The document's data, as plain data and in memory. Plain functions on the document's data, and its cells for a walk. The contract of publisherref04.Plain. Contracts of chars.Space, Digit, Letter, Lower: what they are of a code point. Contracts of the code point readers of publisherref01 and of white space, over this seat's translation. The contract of publisherref01.at: the code point at a byte is the one that UTF-8 decoding gives. Contracts of publisherref01.Lower, in, Letter, bytes, Text. Contracts of attr.letter, inName, wordEnd, Name. The contract of publisherref04.Plain. -/
import Derived.Test.YtkfnkeflalcphaaGreatDoorProg
import Derived.BigQuiet
import Derived.Lib.Hide
import Derived.WalkLawsBesides
import Derived.Lib.Strings
import Derived.Test.YtkfnkeflalcphaaGreatDoorKPlFold
set_option maxHeartbeats 4000000
set_option maxRecDepth 100000
open Go.Lib (hid)
namespace Go.Proofs.YtkfnkeflalcphaaGreatDoor
open Bool renaming eq_iff_iff->jm4
open Nat renaming zero_le->jmk
open Go renaming World->jp3,Value->jp5
open Go.RowKit
theorem Yc {B:Nat} {e:TypeId} {k:Nat} {v:jp5} {n:Nat} {xs:List jp5} {w w':jp3} (h:w.ownsRow B e k v n xs) (hb:Below w.heap.size w w'):w'.ownsRow B e k v n xs:=
 h.kept (row:=none) ⟨hb.os,hb.tape,hb.output,hb.size,fun i hi _=>hb.block i hi⟩ (by cases v.ownBlock<;>simp)
theorem dO {B:Nat} {a w:jp3} (h:Below B a w) (q:Nat):Below B a (w.drewN q):=⟨h.os,h.tape,h.output,h.size,h.block⟩
theorem aP {w wr w1:jp3} (h:Below w.heap.size w wr) (h1:Below wr.heap.size wr w1):Below w.heap.size w w1:=h.trans (h1.mono h.size)
theorem Qd (w:jp3) (cs:List jp5) (T:TypeId):∀ j u,cs[j]?=some u->(w.alloc (.cells cs.toArray T)).cell? ((⟨w.heap.size,0,none⟩:Addr).add j)=some u:=by
 intro j u h;have e:((⟨w.heap.size,0,none⟩:Addr).add j)=⟨w.heap.size,j,none⟩:=by unfold Addr.add;split<;>simp_all
 rw [e];have hb:(w.alloc (.cells cs.toArray T)).heap[w.heap.size]?=some (.cells cs.toArray T):=by show (w.heap.push _)[w.heap.size]?=_;simp
 simp only [World.cell?,hb];simpa using h
theorem QL (w:jp3) (v:jp5) (T:TypeId):∀ j u,[v][j]?=some u->(w.alloc (.cells #[v] T)).cell? ((⟨w.heap.size,0,none⟩:Addr).add j)=some u:=Qd w [v] T
theorem D8 {w:jp3} {B B':Nat} {e:TypeId} {k:Nat} {v:jp5} {n:Nat} {xs:List jp5} (h:w.ownsRow B e k v n xs) (hb:B'<=B):w.ownsRow B' e k v n xs:=by
 obtain ⟨h1,h2⟩:=h;refine ⟨h1,?_⟩;rcases h2 with h2 | ⟨g,cap,cur,r1,r2,r3⟩
 ·exact .inl h2
 ·exact .inr ⟨g,cap,cur,r1,Nat.le_trans hb r2,r3⟩
theorem qh {w:jp3} {B:Nat} {e:TypeId} {k:Nat} {v:jp5} {n:Nat} {xs:List jp5} (h:w.ownsRow B e k v n xs) (hn:0<n):∃ g cap,v=.slice (some ⟨g,0,none⟩) n cap/\n<=cap:=by
 rcases h.2 with ⟨_,h2⟩ | ⟨g,cap,cur,r1,r2,r3,r4,_⟩
 ·omega
 ·exact ⟨g,cap,r1,r4⟩
theorem DW {a b c:jp3} {row:Option Nat} (h:a.grownBy b row) (k:b.grownBy c row):a.grownBy c row:=
 ⟨k.os.trans h.os,k.tape.trans h.tape,k.output.trans h.output,Nat.le_trans h.size k.size,fun i hi hr=>(k.block i (Nat.lt_of_lt_of_le hi h.size) hr).trans (h.block i hi hr)⟩
theorem G5 {a b:jp3} {row:Option Nat} (h:a.grownBy b row):a.grownBy b.drew row:=⟨h.os,h.tape,h.output,h.size,h.block⟩
theorem ze {w:jp3} {b o:Nat} {v:jp5} (h:w.cell? ⟨b,o,none⟩=some v):b<w.heap.size:=by
 refine Nat.lt_of_not_le fun hle=>?_
 have:w.heap[b]?=none:=by rw [Array.getElem?_eq_none_iff];exact hle
 simp [World.cell?,this] at h
theorem past {w:jp3} {b off:Nat} {v:jp5} (h:w.cell? ⟨b,off,none⟩=some v) (o:Obj):(w.alloc o).cell? ⟨b,off,none⟩=some v:=
 (World.cell?_of_block (w:=w) (a:=⟨b,off,none⟩) (Below.heap_alloc w o b (ze h))).trans h
def MH (w:jp3) (k:Nat) (v:jp5) (n:Nat) (xs:List jp5):Prop:=
 xs.length=n*k/\∃ a cap,v=.slice a n cap/\n<=cap/\cap<=maxLen/\(n=0\/∃ b off,a=some ⟨b,off,none⟩/\∀ j u,xs[j]?=some u->w.cell? ⟨b,off+j,none⟩=some u)
theorem MH.AJ {w:jp3} {B:Nat} {e:TypeId} {k:Nat} {v:jp5} {n:Nat} {xs:List jp5} (h:w.ownsRow B e k v n xs):MH w k v n xs:=by
 obtain ⟨h1,h2⟩:=h;refine ⟨h1,?_⟩;rcases h2 with ⟨rfl,rfl⟩ | ⟨g,cap,cur,rfl,hg,hb,hn,hm,hcs,hx⟩
 ·exact ⟨none,0,rfl,Nat.le_refl _,jmk _,.inl rfl⟩
 ·refine ⟨_,cap,rfl,hn,hm,.inr ⟨g,0,rfl,fun j u hu=>?_⟩⟩;have hown:w.ownsRow B e k (.slice (some ⟨g,0,none⟩) n cap) n xs:=⟨h1,.inr ⟨g,cap,cur,rfl,hg,hb,hn,hm,hcs,hx⟩⟩;have:=hown.cells rfl j u hu;rw [Nat.zero_add];rw [<- this];congr 1;unfold Addr.add;split<;>simp_all
open Go.RowKit
inductive D where
 | int (k:IntKind) (n:Int)
 | bool (b:Bool)
 | str (s:ByteArray)
 | st (fs:List D)
 | sl (k:Nat) (l:List D)
mutual
def Rd (ok:Nat->Prop) (w:jp3):D->List jp5->Prop
 | .int k n,cs=>cs=[.int k n]
 | .bool b,cs=>cs=[.bool b]
 | .str s,cs=>cs=[.string s]
 | .st fs,cs=>∃ rows,aH ok w fs rows/\cs=rows.flatten
 | .sl k l,cs=>∃ a cap rows,cs=[.slice a l.length cap]/\l.length<=cap/\cap<=maxLen/\aH ok w l rows/\(∀ r∈rows,r.length=k) /\
   (l.length=0\/∃ b off,a=some ⟨b,off,none⟩/\ok b/\b<w.heap.size/\∀ j u,rows.flatten[j]?=some u->w.cell? ⟨b,off+j,none⟩=some u)
def aH (ok:Nat->Prop) (w:jp3):List D->List (List jp5)->Prop
 | [],rows=>rows=[]
 | d::ds,rows=>∃ r rs,rows=r::rs/\Rd ok w d r/\aH ok w ds rs
end
theorem iA {w w':jp3} {b:Nat} (h:w'.heap[b]?=w.heap[b]?) (o:Nat):w'.cell? ⟨b,o,none⟩=w.cell? ⟨b,o,none⟩:=World.cell?_of_block (a:=⟨b,o,none⟩) h
theorem Ip {w w':jp3} {b:Nat} (h:w'.heap[b]?=w.heap[b]?) (hb:b<w.heap.size):b<w'.heap.size:=by rw [Array.getElem?_eq_getElem hb] at h;exact (Array.getElem?_eq_some_iff.1 h).1
theorem FV (w:jp3) (cs:List jp5) (T:TypeId) (j:Nat) (u:jp5) (h:cs[j]?=some u):(w.alloc (.cells cs.toArray T)).cell? ⟨w.heap.size,j,none⟩=some u:=by
 have:=Qd w cs T j u h;have e:((⟨w.heap.size,0,none⟩:Addr).add j)=⟨w.heap.size,j,none⟩:=by unfold Addr.add;split<;>simp_all
 rwa [e] at this
theorem own_ne {w:jp3} {B:Nat} {e:TypeId} {k:Nat} {v:jp5} {n:Nat} {xs:List jp5} {b:Nat} (h:w.ownsRow B e k v n xs) (hb:w.heap.size<=b):v.ownBlock≠some b:=fun e'=>by
 have:=(h.lt b e').2;omega
def zG (ok ok':Nat->Prop) (w w':jp3):Prop:=∀ b,ok b->b<w.heap.size->ok' b/\w'.heap[b]?=w.heap[b]?
mutual
theorem Rd.keep {ok ok':Nat->Prop} {w w':jp3} (hs:zG ok ok' w w'):∀ (d:D) (cs:List jp5),Rd ok w d cs->Rd ok' w' d cs
 | .int _ _,_,h=>by unfold Rd at h ⊢;exact h
 | .bool _,_,h=>by unfold Rd at h ⊢;exact h
 | .str _,_,h=>by unfold Rd at h ⊢;exact h
 | .st fs,_,h=>by
  unfold Rd at h ⊢;obtain ⟨rows,hr,hc⟩:=h;exact ⟨rows,aH.keep hs fs rows hr,hc⟩
 | .sl k l,_,h=>by
  unfold Rd at h ⊢;obtain ⟨a,cap,rows,h1,h2,h3,h4,h5,h6⟩:=h;have h4':=aH.keep hs l rows h4;refine ⟨a,cap,rows,h1,h2,h3,h4',h5,?_⟩;rcases h6 with h6 | ⟨b,off,h7,h8,hb,h9⟩
  ·exact .inl h6
  ·obtain ⟨k1,k2⟩:=hs b h8 hb;refine .inr ⟨b,off,h7,k1,Ip k2 hb,fun j u hu=>by rw [iA k2];exact h9 j u hu⟩
theorem aH.keep {ok ok':Nat->Prop} {w w':jp3} (hs:zG ok ok' w w'):∀ (l:List D) (rows:List (List jp5)),aH ok w l rows->aH ok' w' l rows
 | [],_,h=>by unfold aH at h ⊢;exact h
 | d::ds,_,h=>by
  unfold aH at h ⊢;obtain ⟨r,rs,h1,h2,h3⟩:=h;exact ⟨r,rs,h1,Rd.keep hs d r h2,aH.keep hs ds rs h3⟩
end
theorem aH.len {ok:Nat->Prop} {w:jp3}:∀ {l:List D} {rows:List (List jp5)},aH ok w l rows->rows.length=l.length
 | [],_,h=>by unfold aH at h;simp [h]
 | d::ds,_,h=>by
  unfold aH at h;obtain ⟨r,rs,rfl,_,h3⟩:=h;simp [aH.len h3]
theorem aH.get {ok:Nat->Prop} {w:jp3}:∀ {l:List D} {rows:List (List jp5)},aH ok w l rows->∀ (i:Nat) (d:D),l[i]?=some d->∃ r,rows[i]?=some r/\Rd ok w d r
 | [],_,h,i,d,hd=>by simp at hd
 | x::xs,_,h,i,d,hd=>by
  unfold aH at h;obtain ⟨r,rs,rfl,h2,h3⟩:=h;cases i with
  | zero=>simp at hd;subst hd;exact ⟨r,rfl,h2⟩
  | succ i=>simp at hd;obtain ⟨r',h4,h5⟩:=aH.get h3 i d hd;exact ⟨r',by simpa using h4,h5⟩
theorem aH.app {ok:Nat->Prop} {w:jp3}:∀ {l m:List D} {rows rows':List (List jp5)},aH ok w l rows->aH ok w m rows'->aH ok w (l++m) (rows++rows')
 | [],_,_,_,h,h'=>by unfold aH at h;subst h;exact h'
 | d::ds,_,_,_,h,h'=>by
  unfold aH at h;obtain ⟨r,rs,rfl,h2,h3⟩:=h;show aH ok w (d::(ds++_)) _;unfold aH;exact ⟨r,rs++_,rfl,h2,aH.app h3 h'⟩
theorem aH.one {ok:Nat->Prop} {w:jp3} {d:D} {r:List jp5} (h:Rd ok w d r):aH ok w [d] [r]:=by unfold aH;exact ⟨r,[],rfl,h,by unfold aH;rfl⟩
theorem aH.none {ok:Nat->Prop} {w:jp3}:aH ok w [] []:=by unfold aH;rfl
theorem aH.cons {ok:Nat->Prop} {w:jp3} {d:D} {ds:List D} {r:List jp5} {rs:List (List jp5)} (h:Rd ok w d r) (hs:aH ok w ds rs):aH ok w (d::ds) (r::rs):=by unfold aH;exact ⟨r,rs,rfl,h,hs⟩
theorem ji (k:Nat):∀ (rows:List (List jp5)),(∀ r∈rows,r.length=k)->rows.flatten.length=rows.length*k
 | [],_=>by simp
 | r::rs,h=>by
  rw [List.flatten_cons,List.length_append,ji k rs (fun x hx=>h x (by simp [hx])),h r (by simp),List.length_cons,Nat.add_mul];omega
theorem flat_get (k:Nat):∀ (rows:List (List jp5)),(∀ r∈rows,r.length=k)->∀ (i j:Nat) (r:List jp5) (u:jp5),rows[i]?=some r->r[j]?=some u->rows.flatten[i*k+j]?=some u
 | [],_,i,j,r,u,h1,_=>by simp at h1
 | x::xs,h,i,j,r,u,h1,h2=>by
  have hx:=h x (by simp);rw [List.flatten_cons];cases i with
  | zero=>
   simp at h1;subst h1;have hj:j<x.length:=(List.getElem?_eq_some_iff.1 h2).1;rw [List.getElem?_append_left (by omega)];simpa using h2
  | succ i=>
   rw [List.getElem?_append_right (by rw [hx,Nat.add_mul];omega)];have e:(i+1)*k+j-x.length=i*k+j:=by rw [hx,Nat.add_mul];omega
   rw [e];exact flat_get k xs (fun y hy=>h y (by simp [hy])) i j r u (by simpa using h1) h2
structure mh (ok:Nat->Prop) (w:jp3) (k:Nat) (l:List D) (a:Option Addr) (cap:Nat):Prop where
 le:l.length<=cap
 max:cap<=maxLen
 at_:0<l.length->∃ b off,a=some ⟨b,off,none⟩/\ok b/\b<w.heap.size/\∀ i d,l[i]?=some d->∃ r,Rd ok w d r/\r.length=k/\∀ j u,r[j]?=some u->w.cell? ⟨b,off+(i*k+j),none⟩=some u
theorem Rd.aB {ok:Nat->Prop} {w:jp3} {k:Nat} {l:List D} {cs:List jp5} (h:Rd ok w (.sl k l) cs):∃ a cap,cs=[.slice a l.length cap]/\mh ok w k l a cap:=by
 unfold Rd at h;obtain ⟨a,cap,rows,h1,h2,h3,h4,h5,h6⟩:=h;refine ⟨a,cap,h1,h2,h3,fun hp=>?_⟩;rcases h6 with h6 | ⟨b,off,h7,h8,hb,h9⟩
 ·omega
 ·refine ⟨b,off,h7,h8,hb,fun i d hd=>?_⟩;obtain ⟨r,hr,hrd⟩:=h4.get i d hd;exact ⟨r,hrd,h5 r (List.mem_of_getElem? hr),fun j u hu=>h9 _ u (flat_get k rows h5 i j r u hr hu)⟩
theorem Rd.jQ {ok:Nat->Prop} {w:jp3} {fs:List D} {cs:List jp5} (h:Rd ok w (.st fs) cs):∃ rows,aH ok w fs rows/\cs=rows.flatten:=by unfold Rd at h;exact h
theorem Rd.sS {ok:Nat->Prop} {w:jp3} {fs:List D} {rows:List (List jp5)} (h:aH ok w fs rows):Rd ok w (.st fs) rows.flatten:=by unfold Rd;exact ⟨rows,h,rfl⟩
theorem aH.aC {ok:Nat->Prop} {w:jp3} {d:D} {ds:List D} {rows:List (List jp5)} (h:aH ok w (d::ds) rows):∃ r rs,rows=r::rs/\Rd ok w d r/\aH ok w ds rs:=by unfold aH at h;exact h
theorem aH.bZ {ok:Nat->Prop} {w:jp3} {rows:List (List jp5)} (h:aH ok w [] rows):rows=[]:=by unfold aH at h;exact h
theorem Rd.wY {ok:Nat->Prop} {w:jp3} {k:IntKind} {n:Int} {cs:List jp5} (h:Rd ok w (.int k n) cs):cs=[.int k n]:=by unfold Rd at h;exact h
theorem Rd.zI {ok:Nat->Prop} {w:jp3} {b:Bool} {cs:List jp5} (h:Rd ok w (.bool b) cs):cs=[.bool b]:=by unfold Rd at h;exact h
theorem Rd.bq {ok:Nat->Prop} {w:jp3} {s:ByteArray} {cs:List jp5} (h:Rd ok w (.str s) cs):cs=[.string s]:=by unfold Rd at h;exact h
theorem Rd.G6 (ok:Nat->Prop) (w:jp3) (k:IntKind) (n:Int):Rd ok w (.int k n) [.int k n]:=by unfold Rd;rfl
theorem Rd.Je (ok:Nat->Prop) (w:jp3) (b:Bool):Rd ok w (.bool b) [.bool b]:=by unfold Rd;rfl
theorem Rd.dP (ok:Nat->Prop) (w:jp3) (s:ByteArray):Rd ok w (.str s) [.string s]:=by unfold Rd;rfl
theorem Rd.aD (ok:Nat->Prop) (w:jp3) (k:Nat):Rd ok w (.sl k []) [.slice none 0 0]:=by unfold Rd;exact ⟨none,0,[],rfl,Nat.le_refl _,jmk _,aH.none,by simp,.inl rfl⟩
theorem Rd.lI {ok:Nat->Prop} {w:jp3} {B:Nat} {e:TypeId} {k:Nat} {l:List D} {v:jp5} {rows:List (List jp5)} (ho:w.ownsRow B e k v l.length rows.flatten) (h:aH ok w l rows) (hk:∀ r∈rows,r.length=k) (hok:∀ g,v.ownBlock=some g->ok g):Rd ok w (.sl k l) [v]:=by
 have hlt:=ho.lt;have hcl:∀ g cap,v=.slice (some ⟨g,0,none⟩) l.length cap->∀ j u,rows.flatten[j]?=some u->w.cell? ⟨g,0+j,none⟩=some u:=by rintro g cap rfl j u hu;rw [Nat.zero_add,<- ho.cells rfl j u hu];congr 1;unfold Addr.add;split<;>simp_all
 obtain ⟨h1,h2⟩:=ho;rcases h2 with ⟨rfl,hx⟩ | ⟨g,cap,cur,rfl,hg,hb,hn,hm,hcs,hx⟩
 ·unfold Rd;exact ⟨none,0,rows,by rw [hx],by omega,jmk _,h,hk,.inl hx⟩
 ·unfold Rd;exact ⟨_,cap,rows,rfl,hn,hm,h,hk,.inr ⟨g,0,rfl,hok g rfl,(hlt g rfl).2,hcl g cap rfl⟩⟩
def dW (l:List ByteArray):D:=.sl 1 (l.map D.str)
theorem aH.strs {ok:Nat->Prop} {w:jp3}:∀ (l:List ByteArray),aH ok w (l.map D.str) (l.map fun s=>[Value.string s])
 | []=>aH.none
 | s::l=>aH.cons (Rd.dP ok w s) (aH.strs l)
theorem nJ:∀ (l:List ByteArray),(l.map fun s=>[Value.string s]).flatten=l.map Value.string
 | []=>rfl
 | s::l=>by simp [List.flatten_cons,nJ l]
theorem aH.nI {ok:Nat->Prop} {w:jp3}:∀ (l:List ByteArray) (rows:List (List jp5)),aH ok w (l.map D.str) rows->rows=l.map fun s=>[Value.string s]
 | [],_,h=>by exact h.bZ
 | s::l,_,h=>by
  obtain ⟨r,rs,rfl,h1,h2⟩:=h.aC;rw [h1.bq,aH.nI l rs h2];rfl
theorem Rd.Nl {ok:Nat->Prop} {w:jp3} {B:Nat} {e:TypeId} {l:List ByteArray} {v:jp5} (ho:w.ownsRow B e 1 v l.length (l.map Value.string)) (hok:∀ g,v.ownBlock=some g->ok g):Rd ok w (dW l) [v]:=by refine Rd.lI (rows:=l.map fun s=>[Value.string s]) (B:=B) (e:=e) ?_ (aH.strs l) (by simp) hok;rw [nJ,List.length_map];exact ho
open Go.RowKit
structure Pr where
 key:ByteArray
 val:ByteArray
deriving DecidableEq
structure Ci where
 key:ByteArray
 pre:ByteArray
 suf:ByteArray
 bare:Bool
deriving DecidableEq
structure At where
 id:ByteArray
 cls:List ByteArray
 aJ:List Pr
deriving DecidableEq
inductive aj where
 | mk (kind:Int) (text dest title:ByteArray) (at_:At) (args:List ByteArray) (dG:List Ci) (kids:List aj)
inductive ah where
 | mk (kind level:Int) (info text dest title:ByteArray) (at_:At) (line:List aj) (kids:List ah)
def Pr.d (p:Pr):D:=.st [.str p.key,.str p.val]
def Ci.d (c:Ci):D:=.st [.str c.key,.str c.pre,.str c.suf,.bool c.bare]
def At.ds (a:At):List D:=[.str a.id,dW a.cls,.sl 2 (a.aJ.map Pr.d)]
mutual
def aj.d:aj->D
 | .mk k t d ti a ar ci ks=>.st [.int .i64 k,.str t,.str d,.str ti,.st a.ds,dW ar,.sl 4 (ci.map Ci.d),.sl 10 (aj.dl ks)]
def aj.dl:List aj->List D
 | []=>[]
 | x::l=>x.d::aj.dl l
end
theorem aj.gL:∀ (l:List aj),aj.dl l=l.map aj.d
 | []=>by unfold aj.dl;rfl
 | x::l=>by rw [aj.dl,aj.gL l];rfl
mutual
def ah.d:ah->D
 | .mk k lv i t d ti a li ks=>.st [.int .i64 k,.int .i64 lv,.str i,.str t,.str d,.str ti,.st a.ds,.sl 10 (li.map aj.d),.sl 11 (ah.dl ks)]
def ah.dl:List ah->List D
 | []=>[]
 | x::l=>x.d::ah.dl l
end
theorem ah.gL:∀ (l:List ah),ah.dl l=l.map ah.d
 | []=>by unfold ah.dl;rfl
 | x::l=>by rw [ah.dl,ah.gL l];rfl
def aX (l:List aj):D:=.sl 10 (l.map aj.d)
def fC (l:List ah):D:=.sl 11 (l.map ah.d)
def bP (l:List Pr):D:=.sl 2 (l.map Pr.d)
def JZ (l:List Ci):D:=.sl 4 (l.map Ci.d)
variable {ok:Nat->Prop} {w:jp3}
theorem Pr.open_ {p:Pr} {cs:List jp5} (h:Rd ok w p.d cs):cs=[.string p.key,.string p.val]:=by unfold Pr.d at h;obtain ⟨_,g0,rfl⟩:=h.jQ;obtain ⟨_,_,rfl,h1,g1⟩:=g0.aC;obtain ⟨_,_,rfl,h2,g2⟩:=g1.aC;obtain rfl:=g2.bZ;obtain rfl:=h1.bq;obtain rfl:=h2.bq;rfl
theorem Ci.open_ {p:Ci} {cs:List jp5} (h:Rd ok w p.d cs):cs=[.string p.key,.string p.pre,.string p.suf,.bool p.bare]:=by unfold Ci.d at h;obtain ⟨_,g0,rfl⟩:=h.jQ;obtain ⟨_,_,rfl,h1,g1⟩:=g0.aC;obtain ⟨_,_,rfl,h2,g2⟩:=g1.aC;obtain ⟨_,_,rfl,h3,g3⟩:=g2.aC;obtain ⟨_,_,rfl,h4,g4⟩:=g3.aC;obtain rfl:=g4.bZ;obtain rfl:=h1.bq;obtain rfl:=h2.bq;obtain rfl:=h3.bq;obtain rfl:=h4.zI;rfl
theorem Pr.eH (ok:Nat->Prop) (w:jp3) (p:Pr):Rd ok w p.d [.string p.key,.string p.val]:=
 Rd.sS (rows:=[[.string p.key],[.string p.val]]) (.cons (Rd.dP _ _ _) (.cons (Rd.dP _ _ _) .none))
theorem Ci.eH (ok:Nat->Prop) (w:jp3) (p:Ci):Rd ok w p.d [.string p.key,.string p.pre,.string p.suf,.bool p.bare]:=
 Rd.sS (rows:=[[.string p.key],[.string p.pre],[.string p.suf],[.bool p.bare]]) (.cons (Rd.dP _ _ _) (.cons (Rd.dP _ _ _) (.cons (Rd.dP _ _ _) (.cons (Rd.Je _ _ _) .none))))
theorem Rd.gq {k:Nat} {l:List D} {cs:List jp5} (h:Rd ok w (.sl k l) cs):∃ v,cs=[v]/\Rd ok w (.sl k l) [v]:=by obtain ⟨a,cap,rfl,_⟩:=h.aB;exact ⟨_,rfl,h⟩
structure AtR (ok:Nat->Prop) (w:jp3) (a:At) (vc vp:jp5):Prop where
 cls:Rd ok w (dW a.cls) [vc]
 aJ:Rd ok w (bP a.aJ) [vp]
theorem At.open_ {a:At} {cs:List jp5} (h:Rd ok w (.st a.ds) cs):∃ vc vp,cs=[.string a.id,vc,vp]/\AtR ok w a vc vp:=by unfold At.ds at h;obtain ⟨_,g0,rfl⟩:=h.jQ;obtain ⟨_,_,rfl,h1,g1⟩:=g0.aC;obtain ⟨_,_,rfl,h2,g2⟩:=g1.aC;obtain ⟨_,_,rfl,h3,g3⟩:=g2.aC;obtain ⟨vc,rfl,h2⟩:=Rd.gq h2;obtain ⟨vp,rfl,h3⟩:=Rd.gq h3;obtain rfl:=g3.bZ;obtain rfl:=h1.bq;exact ⟨vc,vp,rfl,h2,h3⟩
theorem At.eH {a:At} {vc vp:jp5} (h:AtR ok w a vc vp):Rd ok w (.st a.ds) [.string a.id,vc,vp]:=
 Rd.sS (rows:=[[.string a.id],[vc],[vp]]) (.cons (Rd.dP _ _ _) (.cons h.cls (.cons h.aJ .none)))
structure uo (ok:Nat->Prop) (w:jp3) (at_:At) (args:List ByteArray) (dG:List Ci) (kids:List aj) (vc vp va vi vk:jp5):Prop where
 at_:AtR ok w at_ vc vp
 args:Rd ok w (dW args) [va]
 dG:Rd ok w (JZ dG) [vi]
 kids:Rd ok w (aX kids) [vk]
theorem aj.open_ {k:Int} {t d ti:ByteArray} {a:At} {ar:List ByteArray} {ci:List Ci} {ks:List aj} {cs:List jp5} (h:Rd ok w (aj.mk k t d ti a ar ci ks).d cs) : ∃ vc vp va vi vk,cs=[.int .i64 k,.string t,.string d,.string ti,.string a.id,vc,vp,va,vi,vk]/\uo ok w a ar ci ks vc vp va vi vk:=by unfold aj.d at h;obtain ⟨_,g0,rfl⟩:=h.jQ;obtain ⟨_,_,rfl,h1,g1⟩:=g0.aC;obtain ⟨_,_,rfl,h2,g2⟩:=g1.aC;obtain ⟨_,_,rfl,h3,g3⟩:=g2.aC;obtain ⟨_,_,rfl,h4,g4⟩:=g3.aC;obtain ⟨_,_,rfl,h5,g5⟩:=g4.aC;obtain ⟨_,_,rfl,h6,g6⟩:=g5.aC;obtain ⟨_,_,rfl,h7,g7⟩:=g6.aC;obtain ⟨_,_,rfl,h8,g8⟩:=g7.aC;obtain ⟨vc,vp,rfl,ha⟩:=At.open_ h5;obtain ⟨va,rfl,h6⟩:=Rd.gq h6;obtain ⟨vi,rfl,h7⟩:=Rd.gq h7;obtain ⟨vk,rfl,h8⟩:=Rd.gq h8;rw [aj.gL] at h8;obtain rfl:=g8.bZ;obtain rfl:=h1.wY;obtain rfl:=h2.bq;obtain rfl:=h3.bq;obtain rfl:=h4.bq;exact ⟨vc,vp,va,vi,vk,rfl,ha,h6,h7,h8⟩
theorem aj.eH (k:Int) (t d ti:ByteArray) {a:At} {ar:List ByteArray} {ci:List Ci} {ks:List aj} {vc vp va vi vk:jp5} (h:uo ok w a ar ci ks vc vp va vi vk) : Rd ok w (aj.mk k t d ti a ar ci ks).d [.int .i64 k,.string t,.string d,.string ti,.string a.id,vc,vp,va,vi,vk]:=by
 unfold aj.d;rw [aj.gL];exact Rd.sS (rows:=[[.int .i64 k],[.string t],[.string d],[.string ti],[.string a.id,vc,vp],[va],[vi],[vk]])
  (.cons (Rd.G6 _ _ _ _) (.cons (Rd.dP _ _ _) (.cons (Rd.dP _ _ _) (.cons (Rd.dP _ _ _) (.cons (At.eH h.at_) (.cons h.args (.cons h.dG (.cons h.kids .none))))))))
structure kN (ok:Nat->Prop) (w:jp3) (at_:At) (line:List aj) (kids:List ah) (vc vp vl vk:jp5):Prop where
 at_:AtR ok w at_ vc vp
 line:Rd ok w (aX line) [vl]
 kids:Rd ok w (fC kids) [vk]
theorem ah.open_ {k lv:Int} {i t d ti:ByteArray} {a:At} {li:List aj} {ks:List ah} {cs:List jp5} (h:Rd ok w (ah.mk k lv i t d ti a li ks).d cs) : ∃ vc vp vl vk,cs=[.int .i64 k,.int .i64 lv,.string i,.string t,.string d,.string ti,.string a.id,vc,vp,vl,vk]/\kN ok w a li ks vc vp vl vk:=by unfold ah.d at h;obtain ⟨_,g0,rfl⟩:=h.jQ;obtain ⟨_,_,rfl,h1,g1⟩:=g0.aC;obtain ⟨_,_,rfl,h2,g2⟩:=g1.aC;obtain ⟨_,_,rfl,h3,g3⟩:=g2.aC;obtain ⟨_,_,rfl,h4,g4⟩:=g3.aC;obtain ⟨_,_,rfl,h5,g5⟩:=g4.aC;obtain ⟨_,_,rfl,h6,g6⟩:=g5.aC;obtain ⟨_,_,rfl,h7,g7⟩:=g6.aC;obtain ⟨_,_,rfl,h8,g8⟩:=g7.aC;obtain ⟨_,_,rfl,h9,g9⟩:=g8.aC;obtain ⟨vc,vp,rfl,ha⟩:=At.open_ h7;obtain ⟨vl,rfl,h8⟩:=Rd.gq h8;obtain ⟨vk,rfl,h9⟩:=Rd.gq h9;rw [ah.gL] at h9;obtain rfl:=g9.bZ;obtain rfl:=h1.wY;obtain rfl:=h2.wY;obtain rfl:=h3.bq;obtain rfl:=h4.bq;obtain rfl:=h5.bq;obtain rfl:=h6.bq;exact ⟨vc,vp,vl,vk,rfl,ha,h8,h9⟩
theorem ah.eH (k lv:Int) (i t d ti:ByteArray) {a:At} {li:List aj} {ks:List ah} {vc vp vl vk:jp5} (h:kN ok w a li ks vc vp vl vk) : Rd ok w (ah.mk k lv i t d ti a li ks).d [.int .i64 k,.int .i64 lv,.string i,.string t,.string d,.string ti,.string a.id,vc,vp,vl,vk]:=by
 unfold ah.d;rw [ah.gL];exact Rd.sS (rows:=[[.int .i64 k],[.int .i64 lv],[.string i],[.string t],[.string d],[.string ti],[.string a.id,vc,vp],[vl],[vk]])
  (.cons (Rd.G6 _ _ _ _) (.cons (Rd.G6 _ _ _ _) (.cons (Rd.dP _ _ _) (.cons (Rd.dP _ _ _) (.cons (Rd.dP _ _ _) (.cons (Rd.dP _ _ _) (.cons (At.eH h.at_) (.cons h.line (.cons h.kids .none)))))))))
open Go.RowKit
mutual
def aj.sz:aj->Nat
 | .mk _ _ _ _ _ _ _ ks=>1+aj.aR ks
def aj.aR:List aj->Nat
 | []=>0
 | x::l=>x.sz+aj.aR l
end
mutual
def ah.sz:ah->Nat
 | .mk _ _ _ _ _ _ _ _ ks=>1+ah.aR ks
def ah.aR:List ah->Nat
 | []=>0
 | x::l=>x.sz+ah.aR l
end
theorem aj.bg:∀ (l:List aj) (k:Nat) (x:aj),l[k]?=some x->x.sz<=aj.aR l
 | [],_,_,h=>by simp at h
 | y::l,0,x,h=>by simp at h;subst h;rw [aj.aR];omega
 | y::l,k+1,x,h=>by
  have:=aj.bg l k x (by simpa using h);rw [aj.aR];omega
theorem ah.bg:∀ (l:List ah) (k:Nat) (x:ah),l[k]?=some x->x.sz<=ah.aR l
 | [],_,_,h=>by simp at h
 | y::l,0,x,h=>by simp at h;subst h;rw [ah.aR];omega
 | y::l,k+1,x,h=>by
  have:=ah.bg l k x (by simpa using h);rw [ah.aR];omega
mutual
def aj.plain:aj->List UInt8
 | .mk k t d _ _ _ _ ks=>
  if k=1\/k=4\/k=5 then t.data.toList else if k=2\/k=3 then [32]
  else if k=6\/k=7\/k=8\/k=9\/k=10\/k=11 then aj.aO ks else if k=16 then d.data.toList else []
def aj.aO:List aj->List UInt8
 | []=>[]
 | x::l=>x.plain++aj.aO l
end
theorem aj.xg (l m:List aj):aj.aO (l++m)=aj.aO l++aj.aO m:=by
 induction l with
 | nil=>rw [aj.aO];rfl
 | cons x l ih=>rw [List.cons_append,aj.aO,aj.aO,ih,List.append_assoc]
theorem aj.sj (l:List aj) (k:Nat) (x:aj) (h:l[k]?=some x):aj.aO (l.take (k+1))=aj.aO (l.take k)++x.plain:=by rw [List.take_add_one,h,aj.xg];simp [aj.aO]
theorem aj.Le (l:List aj) (k:Nat):(aj.aO (l.take k)).length<=(aj.aO l).length:=by have h:l=l.take k++l.drop k:=(List.take_append_drop k l).symm;have:=congrArg (fun l=>(aj.aO l).length) h;rw [aj.xg] at this;simp at this;omega
theorem aj.Mf (l:List aj) (k:Nat) (x:aj) (h:l[k]?=some x):(aj.aO (l.take k)).length+x.plain.length<=(aj.aO l).length:=by have h1:=aj.Le l (k+1);rw [aj.sj l k x h,List.length_append] at h1;exact h1
variable {ok:Nat->Prop} {w:jp3}
structure fK (w:jp3) (b o:Nat) (k:Int) (t d ti:ByteArray) (id:ByteArray) (vc vp va vi vk:jp5):Prop where
 c0:w.cell? ⟨b,o,none⟩=some (.int .i64 k)
 c1:w.cell? ⟨b,o+1,none⟩=some (.string t)
 c2:w.cell? ⟨b,o+2,none⟩=some (.string d)
 c3:w.cell? ⟨b,o+3,none⟩=some (.string ti)
 c4:w.cell? ⟨b,o+4,none⟩=some (.string id)
 c5:w.cell? ⟨b,o+5,none⟩=some vc
 c6:w.cell? ⟨b,o+6,none⟩=some vp
 c7:w.cell? ⟨b,o+7,none⟩=some va
 c8:w.cell? ⟨b,o+8,none⟩=some vi
 c9:w.cell? ⟨b,o+9,none⟩=some vk
theorem fK.of {w:jp3} {b o:Nat} {cs:List jp5} {k:Int} {t d ti id:ByteArray} {vc vp va vi vk:jp5} (hcs:cs=[.int .i64 k,.string t,.string d,.string ti,.string id,vc,vp,va,vi,vk]) (h:∀ j u,cs[j]?=some u->w.cell? ⟨b,o+j,none⟩=some u):fK w b o k t d ti id vc vp va vi vk:=by subst hcs;exact ⟨h 0 _ rfl,h 1 _ rfl,h 2 _ rfl,h 3 _ rfl,h 4 _ rfl,h 5 _ rfl,h 6 _ rfl,h 7 _ rfl,h 8 _ rfl,h 9 _ rfl⟩
theorem fJ {l:List aj} {a:Option Addr} {cap:Nat} (h:mh ok w 10 (l.map aj.d) a cap) {k:Nat} {kd:Int} {t d ti:ByteArray} {at_:At} {ar:List ByteArray} {ci:List Ci} {ks:List aj} (hk:l[k]?=some (.mk kd t d ti at_ ar ci ks)) : ∃ b off vc vp va vi vk,a=some ⟨b,off,none⟩/\ok b/\b<w.heap.size/\fK w b (off+k*10) kd t d ti at_.id vc vp va vi vk/\uo ok w at_ ar ci ks vc vp va vi vk:=by
 have hlt:k<l.length:=(List.getElem?_eq_some_iff.1 hk).1;obtain ⟨b,off,ha,hok,hb,hc⟩:=h.at_ (by simpa using Nat.lt_of_le_of_lt (jmk _) hlt)
 obtain ⟨r,hr,hl,hcell⟩:=hc k _ (by rw [List.getElem?_map,hk];rfl);obtain ⟨vc,vp,va,vi,vk,hcs,hR⟩:=aj.open_ hr;exact ⟨b,off,vc,vp,va,vi,vk,ha,hok,hb,fK.of hcs (fun j u hu=>by rw [Nat.add_assoc];exact hcell j u hu),hR⟩
structure cu (w:jp3) (b o:Nat) (k lv:Int) (i t d ti:ByteArray) (id:ByteArray) (vc vp vl vk:jp5):Prop where
 c0:w.cell? ⟨b,o,none⟩=some (.int .i64 k)
 c1:w.cell? ⟨b,o+1,none⟩=some (.int .i64 lv)
 c2:w.cell? ⟨b,o+2,none⟩=some (.string i)
 c3:w.cell? ⟨b,o+3,none⟩=some (.string t)
 c4:w.cell? ⟨b,o+4,none⟩=some (.string d)
 c5:w.cell? ⟨b,o+5,none⟩=some (.string ti)
 c6:w.cell? ⟨b,o+6,none⟩=some (.string id)
 c7:w.cell? ⟨b,o+7,none⟩=some vc
 c8:w.cell? ⟨b,o+8,none⟩=some vp
 c9:w.cell? ⟨b,o+9,none⟩=some vl
 c10:w.cell? ⟨b,o+10,none⟩=some vk
theorem cu.of {w:jp3} {b o:Nat} {cs:List jp5} {k lv:Int} {i t d ti id:ByteArray} {vc vp vl vk:jp5} (hcs:cs=[.int .i64 k,.int .i64 lv,.string i,.string t,.string d,.string ti,.string id,vc,vp,vl,vk]) (h:∀ j u,cs[j]?=some u->w.cell? ⟨b,o+j,none⟩=some u):cu w b o k lv i t d ti id vc vp vl vk:=by subst hcs;exact ⟨h 0 _ rfl,h 1 _ rfl,h 2 _ rfl,h 3 _ rfl,h 4 _ rfl,h 5 _ rfl,h 6 _ rfl,h 7 _ rfl,h 8 _ rfl,h 9 _ rfl,h 10 _ rfl⟩
theorem I7 {l:List ah} {a:Option Addr} {cap:Nat} (h:mh ok w 11 (l.map ah.d) a cap) {k:Nat} {kd lv:Int} {i t d ti:ByteArray} {at_:At} {li:List aj} {ks:List ah} (hk:l[k]?=some (.mk kd lv i t d ti at_ li ks)) : ∃ b off vc vp vl vk,a=some ⟨b,off,none⟩/\ok b/\b<w.heap.size/\cu w b (off+k*11) kd lv i t d ti at_.id vc vp vl vk/\kN ok w at_ li ks vc vp vl vk:=by
 have hlt:k<l.length:=(List.getElem?_eq_some_iff.1 hk).1;obtain ⟨b,off,ha,hok,hb,hc⟩:=h.at_ (by simpa using Nat.lt_of_le_of_lt (jmk _) hlt)
 obtain ⟨r,hr,hl,hcell⟩:=hc k _ (by rw [List.getElem?_map,hk];rfl);obtain ⟨vc,vp,vl,vk,hcs,hR⟩:=ah.open_ hr;exact ⟨b,off,vc,vp,vl,vk,ha,hok,hb,cu.of hcs (fun j u hu=>by rw [Nat.add_assoc];exact hcell j u hu),hR⟩
open Go.RowKit
set_option linter.unusedVariables false
set_option linter.unusedSimpArgs false
theorem Dn (k:Int):(k=1\/k=4\/k=5)\/(k=2\/k=3)\/(k=6\/k=7\/k=8\/k=9\/k=10\/k=11)\/k=16\/(k≠1/\k≠4/\k≠5/\k≠2/\k≠3/\k≠6/\k≠7/\k≠8/\k≠9/\k≠10/\k≠11/\k≠16):=by omega
open Go.RowKit
theorem DK {a b:Bool} (h:a=b):Ending.returned (.bool a)=.returned (.bool b):=by rw [h]
theorem jK {a b:Int} (h:a=b):Ending.returned (.int .i64 a)=.returned (.int .i64 b):=by rw [h]
theorem Dh (c:Nat) (w:jp3) (hc:c<=1114111) : Calls Tryz.prog 234 #[.int .i64 (c:Int)] w fun e w'=>e=.returned (.bool (XT c))/\w=w':=by
 go_enter Tryz.func234,Tryz.ntmps234;go_wp2;all_goals
  go_ret;refine ⟨DK ?_,rfl⟩;unfold XT
  (try simp only [beq_iff_eq,beq_eq_false_iff_ne,ne_eq] at *)
  rw [jm4];simp;omega
theorem Dt (c:Nat) (w:jp3) (hc:c<=1114111) : Calls Tryz.prog 206 #[.int .i64 (c:Int)] w fun e w'=>e=.returned (.bool (Ms c))/\w=w':=by
 go_enter Tryz.func206,Tryz.ntmps206;go_wp2;all_goals
  go_ret;refine ⟨DK ?_,rfl⟩;unfold Ms lC;rw [jm4];simp
  (try omega)
theorem AQ (c:Nat) (w:jp3) (hc:c<=1114111) : Calls Tryz.prog 205 #[.int .i64 (c:Int)] w fun e w'=>e=.returned (.bool (pU c))/\w=w':=by
 go_enter Tryz.func205,Tryz.ntmps205;go_wp2;all_goals
  go_ret;refine ⟨DK ?_,rfl⟩;unfold pU lC
  (try simp only [beq_iff_eq,beq_eq_false_iff_ne,ne_eq] at *)
  simp;omega
theorem Di (c:Nat) (w:jp3) (hc:c<=1114111) : Calls Tryz.prog 237 #[.int .i64 (c:Int)] w fun e w'=>e=.returned (.int .i64 (jX c:Nat))/\w=w':=by
 go_enter Tryz.func237,Tryz.ntmps237;go_wp2;all_goals
  go_ret;refine ⟨jK ?_,rfl⟩;unfold jX
  (try simp only [bne_iff_ne,bne_eq_false_iff_eq,ne_eq] at *)
  (repeat' split)<;>omega
open Go.RowKit
open Go.RowKit
open Go.RowKit
open Go.RowKit
def j4 (c:Nat):Bool:=lC c 97 122||lC c 65 90
def RQ (c:Nat):Bool:=(decide (c=45)||decide (c=95)||decide (c=46)||decide (c=58))||(j4 c||lC c 48 57)
theorem tC (c:Nat) (w:jp3) (hc:c<256) : Calls Tryz.prog 96 #[.int .u8 (c:Int)] w fun e w'=>e=.returned (.bool (j4 c))/\w=w':=by
 go_enter Tryz.func96,Tryz.ntmps96;go_wp2;all_goals
  go_ret;refine ⟨DK ?_,rfl⟩;unfold j4 lC;rw [jm4];simp
  (try omega)
theorem wV (c:Nat) (w:jp3) (hc:c<256) : Calls Tryz.prog 149 #[.int .u8 (c:Int)] w fun e w'=>e=.returned (.bool (RQ c))/\w=w':=by
 have LT:=hid (fun w=>tC c w hc);by_cases h:c=45\/c=95\/c=46\/c=58
 ·have hv:RQ c=true:=by unfold RQ;rcases h with h | h | h | h<;>simp [h]
  rw [hv];clear hv;rcases h with rfl | rfl | rfl | rfl
  all_goals
   go_enter Tryz.func149,Tryz.ntmps149;go_wp2;go_ret;exact ⟨rfl,rfl⟩
 ·have e1:((c:Int)==45)=false:=by rw [beq_eq_false_iff_ne];omega
  have e2:((c:Int)==95)=false:=by rw [beq_eq_false_iff_ne];omega
  have e3:((c:Int)==46)=false:=by rw [beq_eq_false_iff_ne];omega
  have e4:((c:Int)==58)=false:=by rw [beq_eq_false_iff_ne];omega
  have hv:RQ c=(j4 c||lC c 48 57):=by unfold RQ;rw [show (decide (c=45)||decide (c=95)||decide (c=46)||decide (c=58))=false by simp;omega];rfl
  have HV:=hid hv;generalize RQ c=V at *;clear hv h;cases hl:j4 c with
  | true=>
   rw [hl] at LT;go_enter Tryz.func149,Tryz.ntmps149;go_wp2_with fail
   refine (LT.out _).mono ?_;rintro e w1 ⟨rfl,rfl⟩;go_wp2;go_ret;exact ⟨by rw [HV.out,hl];rfl,rfl⟩
  | false=>
   rw [hl] at LT;rw [hl] at HV;by_cases h48:48<=c
   ·have q1:decide ((48:Int)<=(c:Int))=true:=by simp;omega
    go_enter Tryz.func149,Tryz.ntmps149;go_wp2_with fail
    refine (LT.out _).mono ?_;rintro e w1 ⟨rfl,rfl⟩;go_wp2;go_ret;refine ⟨?_,rfl⟩;rw [HV.out];refine DK ?_;rw [jm4];simp [lC];omega
   ·have q1:decide ((48:Int)<=(c:Int))=false:=by simp;omega
    go_enter Tryz.func149,Tryz.ntmps149;go_wp2_with fail
    refine (LT.out _).mono ?_;rintro e w1 ⟨rfl,rfl⟩;go_wp2;go_ret;refine ⟨?_,rfl⟩;rw [HV.out];refine DK ?_;rw [jm4];simp [lC];omega
def iJ (c:UInt8):Bool:=RQ c.toNat
theorem qO (p:UInt8->Bool):∀ (l:List UInt8) (k:Nat),k<=l.length->(∀ j x,j<k->l[j]?=some x->p x=true)->(∀ x,l[k]?=some x->p x=false)->(l.takeWhile p).length=k
 | [],k,h,_,_=>by simp at h;subst h;rfl
 | x::l,0,_,_,h2=>by rw [List.takeWhile_cons,h2 x rfl];rfl
 | x::l,k+1,h,h1,h2=>by
  rw [List.takeWhile_cons,h1 0 x (by omega) rfl];simp;exact qO p l k (by simpa using h) (fun j y hj hy=>h1 (j+1) y (by omega) (by simpa using hy)) (fun y hy=>h2 y (by simpa using hy))
def EJ (s:ByteArray):Nat:=(s.data.toList.takeWhile iJ).length
theorem fM (s:ByteArray) (k:Nat) (h:k<s.size):s.data.toList[k]?=some s[k]:=by rw [List.getElem?_eq_getElem (by simpa using h)];rfl
theorem EK (s:ByteArray) (w:jp3) (hs:s.size<=1000000000) : Calls Tryz.prog 97 #[.string s,.int .i64 0] w fun e w'=>e=.returned (.int .i64 (EJ s:Nat))/\w=w':=by
 obtain ⟨V,hV⟩:∃ V,V=EJ s:=⟨_,rfl⟩;rw [<- hV];have HV:=hid hV;clear hV;go_enter Tryz.func97,Tryz.ntmps97;go_wp2
 go_loop [1] (fun vi=>∃ k:Nat,k<=s.size/\vi=.int .i64 k/\∀ j x,j<k->s.data.toList[j]?=some x->iJ x=true) (fun i=>s.size-(intOf i).toNat)
 case atStart=>exact ⟨0,jmk _,rfl,fun j x hj=>by omega⟩
 case round=>
  obtain ⟨k,hk,rfl,hall⟩:=hrel;have HA:=hid hall;clear hall;by_cases hlt:k<s.size
  ·have hgl:=UInt8.toNat_lt s[k];have IN:=hid (fun w=>wV s[k].toNat w hgl);have HG:=hid (fM s k hlt);cases hn:RQ s[k].toNat with
   | true=>
    rw [hn] at IN;have HN:=hid hn;clear hn;go_wp2_with fail
    refine (IN.out _).mono ?_;rintro e w1 ⟨rfl,rfl⟩;go_wp2
    go_round
    case rel=>
     refine ⟨k+1,by omega,by go_num,fun j x hj hx=>?_⟩;rcases Nat.lt_or_ge j k with h | h
     ·exact HA.out j x h hx
     ·have:j=k:=by omega
      subst this;rw [HG.out] at hx;obtain rfl:=Option.some.inj hx;exact HN.out
    case measure=>simp [intOf];omega
   | false=>
    rw [hn] at IN;have hw:V=k:=by rw [HV.out];exact qO iJ _ k (by simpa using hk) HA.out (fun x hx=>by rw [HG.out] at hx;obtain rfl:=Option.some.inj hx;exact hn)
    have HW:=hid hw;clear hn hw;go_wp2_with fail
    refine (IN.out _).mono ?_;rintro e w1 ⟨rfl,rfl⟩;go_wp2;go_ret;exact ⟨by rw [HW.out];rfl,rfl⟩
  ·have hw:V=k:=by
    rw [HV.out];refine qO iJ _ k (by simpa using hk) HA.out (fun x hx=>?_);have:=(List.getElem?_eq_some_iff.1 hx).1;have e:s.data.toList.length=s.size:=by simp
    omega
   have HW:=hid hw;clear hw;go_wp2;go_ret;exact ⟨by rw [HW.out];rfl,rfl⟩
def jG (s:ByteArray):Bool:=decide (1<=s.size)&&decide (s.size<=60)&&(match s.data.toList with | []=>false | c::_=>j4 c.toNat)&&decide (EJ s=s.size)
theorem LX (s:ByteArray) (w:jp3) (hs:s.size<=1000000000) : Calls Tryz.prog 52 #[.string s] w fun e w'=>e=.returned (.bool (jG s))/\w=w':=by
 by_cases h0:s.size=0
 ·have hv:jG s=false:=by unfold jG;simp [h0]
  rw [hv];have e0:((s.size:Int)==0)=true:=by simp [h0]
  clear hv h0;go_enter Tryz.func52,Tryz.ntmps52;go_wp2;go_ret;exact ⟨rfl,rfl⟩
 have e0:((s.size:Int)==0)=false:=by rw [beq_eq_false_iff_ne];omega
 by_cases h60:60<s.size
 ·have hv:jG s=false:=by unfold jG;simp;omega
  rw [hv];have e1:decide ((60:Int)<(s.size:Int))=true:=by simp;omega
  clear hv;go_enter Tryz.func52,Tryz.ntmps52;go_wp2;go_ret;exact ⟨rfl,rfl⟩
 have e1:decide ((60:Int)<(s.size:Int))=false:=by simp;omega
 have hp:0<s.size:=by omega
 have hg:=fM s 0 hp;obtain ⟨c,hc⟩:∃ c,s[0]=c:=⟨_,rfl⟩;rw [hc] at hg;have hcl:=UInt8.toNat_lt c;have LT:=hid (fun w=>tC c.toNat w hcl);have WE:=hid (fun w=>EK s w hs);have hl:s.data.toList=c::s.data.toList.tail:=by
  cases h:s.data.toList with
  | nil=>rw [h] at hg;simp at hg
  | cons a l=>rw [h] at hg;simp at hg;rw [hg];rfl
 have hv:jG s=(j4 c.toNat&&decide (EJ s=s.size)):=by unfold jG;rw [hl,decide_eq_true (show 1<=s.size by omega),decide_eq_true (show s.size<=60 by omega)];rfl
 have HV:=hid hv;generalize jG s=V at *;generalize EJ s=E at *;clear hv hl hg;cases hlt:j4 c.toNat with
 | false=>
  rw [hlt] at LT;rw [hlt] at HV;go_enter Tryz.func52,Tryz.ntmps52;go_wp2_with fail
  refine (LT.out _).mono ?_;rintro e w1 ⟨rfl,rfl⟩;go_wp2;go_ret;exact ⟨by rw [HV.out];rfl,rfl⟩
 | true=>
  rw [hlt] at LT;rw [hlt] at HV;go_enter Tryz.func52,Tryz.ntmps52;go_wp2_with fail
  refine (LT.out _).mono ?_;rintro e w1 ⟨rfl,rfl⟩;go_wp2_with fail
  refine (WE.out _).mono ?_;rintro e w1 ⟨rfl,rfl⟩;go_wp2;go_ret;refine ⟨?_,rfl⟩;rw [HV.out];refine DK ?_;rw [jm4];simp
  (try omega)
open Go.RowKit
end Go.Proofs.YtkfnkeflalcphaaGreatDoor

