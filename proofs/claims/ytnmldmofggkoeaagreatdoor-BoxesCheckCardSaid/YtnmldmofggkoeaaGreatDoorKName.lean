/- Small laws on memory, used by the walks of this seat. Data in memory: what cells read as, whatever the types; kept while the blocks that are read stay. The document's data, as plain data and in memory. Plain functions on the document's data, and its cells for a walk. The contract of publisherref04.Plain. Contracts of chars.Space, Digit, Letter, Lower: what they are of a code point. Contracts of attr.letter, inName, wordEnd, Name. -/
import Derived.Test.YtnmldmofggkoeaaGreatDoorProg
import Derived.BigQuiet
import Derived.Lib.Hide
import Derived.WalkLawsBesides
import Derived.Lib.Strings
import Derived.Test.YtnmldmofggkoeaaGreatDoorKPlFold
set_option maxHeartbeats 4000000
set_option maxRecDepth 100000
open Go.Lib (hid)
namespace Go.Proofs.YtnmldmofggkoeaaGreatDoor
open Bool renaming eq_iff_iff->XY
open Nat renaming zero_le->X8
open Go renaming World->YJ,Value->YL
open Go.RowKit
theorem Jo {B:Nat} {e:TypeId} {k:Nat} {v:YL} {n:Nat} {xs:List YL} {w w':YJ} (h:w.ownsRow B e k v n xs) (hb:Below w.heap.size w w'):w'.ownsRow B e k v n xs:=
 h.kept (row:=none) ⟨hb.os,hb.tape,hb.output,hb.size,fun i hi _=>hb.block i hi⟩ (by cases v.ownBlock<;>simp)
theorem below_app {B:Nat} {w wr w1:YJ} {e:TypeId} {k:Nat} {v:YL} {n:Nat} {xs:List YL} {o:Obj} (hbel:Below B w wr) (hB:B<=wr.heap.size) (hown:wr.ownsRow B e k v n xs) (hg:(wr.alloc o).grownBy w1 v.ownBlock):Below B w w1:=
 (hbel.alloc hB o).grown hg (by simp;omega) (fun j hj=>(hown.lt j hj).1)
theorem q01 {B:Nat} {a w:YJ} (h:Below B a w) (q:Nat):Below B a (w.drewN q):=⟨h.os,h.tape,h.output,h.size,h.block⟩
theorem aL {w wr w1:YJ} (h:Below w.heap.size w wr) (h1:Below wr.heap.size wr w1):Below w.heap.size w w1:=h.trans (h1.mono h.size)
theorem gH (w:YJ) (cs:List YL) (T:TypeId):∀ j u,cs[j]?=some u->(w.alloc (.cells cs.toArray T)).cell? ((⟨w.heap.size,0,none⟩:Addr).add j)=some u:=by
 intro j u h;have e:((⟨w.heap.size,0,none⟩:Addr).add j)=⟨w.heap.size,j,none⟩:=by unfold Addr.add;split<;>simp_all
 rw [e];have hb:(w.alloc (.cells cs.toArray T)).heap[w.heap.size]?=some (.cells cs.toArray T):=by show (w.heap.push _)[w.heap.size]?=_;simp
 simp only [World.cell?,hb];simpa using h
theorem kD (w:YJ) (v:YL) (T:TypeId):∀ j u,[v][j]?=some u->(w.alloc (.cells #[v] T)).cell? ((⟨w.heap.size,0,none⟩:Addr).add j)=some u:=gH w [v] T
theorem kE {w:YJ} {B B':Nat} {e:TypeId} {k:Nat} {v:YL} {n:Nat} {xs:List YL} (h:w.ownsRow B e k v n xs) (hb:B'<=B):w.ownsRow B' e k v n xs:=by
 obtain ⟨h1,h2⟩:=h;refine ⟨h1,?_⟩;rcases h2 with h2 | ⟨g,cap,cur,r1,r2,r3⟩
 ·exact .inl h2
 ·exact .inr ⟨g,cap,cur,r1,Nat.le_trans hb r2,r3⟩
theorem kI {w:YJ} {B:Nat} {e:TypeId} {k:Nat} {v:YL} {n:Nat} {xs:List YL} (h:w.ownsRow B e k v n xs) (hn:0<n):∃ g cap,v=.slice (some ⟨g,0,none⟩) n cap/\n<=cap:=by
 rcases h.2 with ⟨_,h2⟩ | ⟨g,cap,cur,r1,r2,r3,r4,_⟩
 ·omega
 ·exact ⟨g,cap,r1,r4⟩
theorem dK {a b c:YJ} {row:Option Nat} (h:a.grownBy b row) (k:b.grownBy c row):a.grownBy c row:=
 ⟨k.os.trans h.os,k.tape.trans h.tape,k.output.trans h.output,Nat.le_trans h.size k.size,fun i hi hr=>(k.block i (Nat.lt_of_lt_of_le hi h.size) hr).trans (h.block i hi hr)⟩
theorem fu {a b:YJ} {row:Option Nat} (h:a.grownBy b row) (o:Obj):a.grownBy (b.alloc o) row:=
 dK h ⟨rfl,rfl,rfl,by simp,fun i hi _=>Below.heap_alloc _ _ _ hi⟩
theorem jI {a b:YJ} {row:Option Nat} (h:a.grownBy b row):a.grownBy b.drew row:=⟨h.os,h.tape,h.output,h.size,h.block⟩
theorem l8 {a b:YJ} {row:Option Nat} (h:a.grownBy b row) (q:Nat):a.grownBy (b.drewN q) row:=⟨h.os,h.tape,h.output,h.size,h.block⟩
theorem fJ {w:YJ} {b o:Nat} {v:YL} (h:w.cell? ⟨b,o,none⟩=some v):b<w.heap.size:=by
 refine Nat.lt_of_not_le fun hle=>?_
 have:w.heap[b]?=none:=by rw [Array.getElem?_eq_none_iff];exact hle
 simp [World.cell?,this] at h
theorem past {w:YJ} {b off:Nat} {v:YL} (h:w.cell? ⟨b,off,none⟩=some v) (o:Obj):(w.alloc o).cell? ⟨b,off,none⟩=some v:=
 (World.cell?_of_block (w:=w) (a:=⟨b,off,none⟩) (Below.heap_alloc w o b (fJ h))).trans h
def jH (w:YJ) (k:Nat) (v:YL) (n:Nat) (xs:List YL):Prop:=
 xs.length=n*k/\∃ a cap,v=.slice a n cap/\n<=cap/\cap<=maxLen/\(n=0\/∃ b off,a=some ⟨b,off,none⟩/\∀ j u,xs[j]?=some u->w.cell? ⟨b,off+j,none⟩=some u)
theorem jH.lI {w:YJ} {B:Nat} {e:TypeId} {k:Nat} {v:YL} {n:Nat} {xs:List YL} (h:w.ownsRow B e k v n xs):jH w k v n xs:=by
 obtain ⟨h1,h2⟩:=h;refine ⟨h1,?_⟩;rcases h2 with ⟨rfl,rfl⟩ | ⟨g,cap,cur,rfl,hg,hb,hn,hm,hcs,hx⟩
 ·exact ⟨none,0,rfl,Nat.le_refl _,X8 _,.inl rfl⟩
 ·refine ⟨_,cap,rfl,hn,hm,.inr ⟨g,0,rfl,fun j u hu=>?_⟩⟩;have hown:w.ownsRow B e k (.slice (some ⟨g,0,none⟩) n cap) n xs:=⟨h1,.inr ⟨g,cap,cur,rfl,hg,hb,hn,hm,hcs,hx⟩⟩;have:=hown.cells rfl j u hu;rw [Nat.zero_add];rw [<- this];congr 1;unfold Addr.add;split<;>simp_all
theorem jH.below {w w':YJ} {k:Nat} {v:YL} {n:Nat} {xs:List YL} (h:jH w k v n xs) (hb:Below w.heap.size w w'):jH w' k v n xs:=by
 obtain ⟨h1,a,cap,h2,h3,h4,h5⟩:=h;refine ⟨h1,a,cap,h2,h3,h4,?_⟩;rcases h5 with h5 | ⟨b,off,h6,h7⟩
 ·exact .inl h5
 ·refine .inr ⟨b,off,h6,fun j u hu=>?_⟩;have hc:=h7 j u hu;have hlt:b<w.heap.size:=by
   refine Nat.lt_of_not_le fun hle=>?_
   have:w.heap[b]?=none:=by rw [Array.getElem?_eq_none_iff];exact hle
   simp [World.cell?,this] at hc
  rw [hb.cell (p:=⟨b,off+j,none⟩) hlt];exact hc
open Go.RowKit
inductive D where
 | int (k:IntKind) (n:Int)
 | bool (b:Bool)
 | str (s:ByteArray)
 | st (fs:List D)
 | sl (k:Nat) (l:List D)
mutual
def Rd (ok:Nat->Prop) (w:YJ):D->List YL->Prop
 | .int k n,cs=>cs=[.int k n]
 | .bool b,cs=>cs=[.bool b]
 | .str s,cs=>cs=[.string s]
 | .st fs,cs=>∃ rows,aH ok w fs rows/\cs=rows.flatten
 | .sl k l,cs=>∃ a cap rows,cs=[.slice a l.length cap]/\l.length<=cap/\cap<=maxLen/\aH ok w l rows/\(∀ r∈rows,r.length=k) /\
   (l.length=0\/∃ b off,a=some ⟨b,off,none⟩/\ok b/\b<w.heap.size/\∀ j u,rows.flatten[j]?=some u->w.cell? ⟨b,off+j,none⟩=some u)
def aH (ok:Nat->Prop) (w:YJ):List D->List (List YL)->Prop
 | [],rows=>rows=[]
 | d::ds,rows=>∃ r rs,rows=r::rs/\Rd ok w d r/\aH ok w ds rs
end
theorem lF {w w':YJ} {b:Nat} (h:w'.heap[b]?=w.heap[b]?) (o:Nat):w'.cell? ⟨b,o,none⟩=w.cell? ⟨b,o,none⟩:=World.cell?_of_block (a:=⟨b,o,none⟩) h
theorem zo {w w':YJ} {b:Nat} (h:w'.heap[b]?=w.heap[b]?) (hb:b<w.heap.size):b<w'.heap.size:=by rw [Array.getElem?_eq_getElem hb] at h;exact (Array.getElem?_eq_some_iff.1 h).1
theorem WZ {w w':YJ} {row:Option Nat} {b o:Nat} {v:YL} (hg:w.grownBy w' row) (hc:w.cell? ⟨b,o,none⟩=some v) (hne:row≠some b):w'.cell? ⟨b,o,none⟩=some v:=by rw [lF (hg.block b (fJ hc) (fun e=>hne e.symm))];exact hc
theorem Eb (w:YJ) (cs:List YL) (T:TypeId) (j:Nat) (u:YL) (h:cs[j]?=some u):(w.alloc (.cells cs.toArray T)).cell? ⟨w.heap.size,j,none⟩=some u:=by
 have:=gH w cs T j u h;have e:((⟨w.heap.size,0,none⟩:Addr).add j)=⟨w.heap.size,j,none⟩:=by unfold Addr.add;split<;>simp_all
 rwa [e] at this
theorem own_ne {w:YJ} {B:Nat} {e:TypeId} {k:Nat} {v:YL} {n:Nat} {xs:List YL} {b:Nat} (h:w.ownsRow B e k v n xs) (hb:w.heap.size<=b):v.ownBlock≠some b:=fun e'=>by
 have:=(h.lt b e').2;omega
def EI (ok ok':Nat->Prop) (w w':YJ):Prop:=∀ b,ok b->b<w.heap.size->ok' b/\w'.heap[b]?=w.heap[b]?
mutual
theorem Rd.keep {ok ok':Nat->Prop} {w w':YJ} (hs:EI ok ok' w w'):∀ (d:D) (cs:List YL),Rd ok w d cs->Rd ok' w' d cs
 | .int _ _,_,h=>by unfold Rd at h ⊢;exact h
 | .bool _,_,h=>by unfold Rd at h ⊢;exact h
 | .str _,_,h=>by unfold Rd at h ⊢;exact h
 | .st fs,_,h=>by
  unfold Rd at h ⊢;obtain ⟨rows,hr,hc⟩:=h;exact ⟨rows,aH.keep hs fs rows hr,hc⟩
 | .sl k l,_,h=>by
  unfold Rd at h ⊢;obtain ⟨a,cap,rows,h1,h2,h3,h4,h5,h6⟩:=h;have h4':=aH.keep hs l rows h4;refine ⟨a,cap,rows,h1,h2,h3,h4',h5,?_⟩;rcases h6 with h6 | ⟨b,off,h7,h8,hb,h9⟩
  ·exact .inl h6
  ·obtain ⟨k1,k2⟩:=hs b h8 hb;refine .inr ⟨b,off,h7,k1,zo k2 hb,fun j u hu=>by rw [lF k2];exact h9 j u hu⟩
theorem aH.keep {ok ok':Nat->Prop} {w w':YJ} (hs:EI ok ok' w w'):∀ (l:List D) (rows:List (List YL)),aH ok w l rows->aH ok' w' l rows
 | [],_,h=>by unfold aH at h ⊢;exact h
 | d::ds,_,h=>by
  unfold aH at h ⊢;obtain ⟨r,rs,h1,h2,h3⟩:=h;exact ⟨r,rs,h1,Rd.keep hs d r h2,aH.keep hs ds rs h3⟩
end
theorem aH.len {ok:Nat->Prop} {w:YJ}:∀ {l:List D} {rows:List (List YL)},aH ok w l rows->rows.length=l.length
 | [],_,h=>by unfold aH at h;simp [h]
 | d::ds,_,h=>by
  unfold aH at h;obtain ⟨r,rs,rfl,_,h3⟩:=h;simp [aH.len h3]
theorem aH.get {ok:Nat->Prop} {w:YJ}:∀ {l:List D} {rows:List (List YL)},aH ok w l rows->∀ (i:Nat) (d:D),l[i]?=some d->∃ r,rows[i]?=some r/\Rd ok w d r
 | [],_,h,i,d,hd=>by simp at hd
 | x::xs,_,h,i,d,hd=>by
  unfold aH at h;obtain ⟨r,rs,rfl,h2,h3⟩:=h;cases i with
  | zero=>simp at hd;subst hd;exact ⟨r,rfl,h2⟩
  | succ i=>simp at hd;obtain ⟨r',h4,h5⟩:=aH.get h3 i d hd;exact ⟨r',by simpa using h4,h5⟩
theorem aH.app {ok:Nat->Prop} {w:YJ}:∀ {l m:List D} {rows rows':List (List YL)},aH ok w l rows->aH ok w m rows'->aH ok w (l++m) (rows++rows')
 | [],_,_,_,h,h'=>by unfold aH at h;subst h;exact h'
 | d::ds,_,_,_,h,h'=>by
  unfold aH at h;obtain ⟨r,rs,rfl,h2,h3⟩:=h;show aH ok w (d::(ds++_)) _;unfold aH;exact ⟨r,rs++_,rfl,h2,aH.app h3 h'⟩
theorem aH.one {ok:Nat->Prop} {w:YJ} {d:D} {r:List YL} (h:Rd ok w d r):aH ok w [d] [r]:=by unfold aH;exact ⟨r,[],rfl,h,by unfold aH;rfl⟩
theorem aH.none {ok:Nat->Prop} {w:YJ}:aH ok w [] []:=by unfold aH;rfl
theorem aH.cons {ok:Nat->Prop} {w:YJ} {d:D} {ds:List D} {r:List YL} {rs:List (List YL)} (h:Rd ok w d r) (hs:aH ok w ds rs):aH ok w (d::ds) (r::rs):=by unfold aH;exact ⟨r,rs,rfl,h,hs⟩
theorem ku (k:Nat):∀ (rows:List (List YL)),(∀ r∈rows,r.length=k)->rows.flatten.length=rows.length*k
 | [],_=>by simp
 | r::rs,h=>by
  rw [List.flatten_cons,List.length_append,ku k rs (fun x hx=>h x (by simp [hx])),h r (by simp),List.length_cons,Nat.add_mul];omega
theorem flat_get (k:Nat):∀ (rows:List (List YL)),(∀ r∈rows,r.length=k)->∀ (i j:Nat) (r:List YL) (u:YL),rows[i]?=some r->r[j]?=some u->rows.flatten[i*k+j]?=some u
 | [],_,i,j,r,u,h1,_=>by simp at h1
 | x::xs,h,i,j,r,u,h1,h2=>by
  have hx:=h x (by simp);rw [List.flatten_cons];cases i with
  | zero=>
   simp at h1;subst h1;have hj:j<x.length:=(List.getElem?_eq_some_iff.1 h2).1;rw [List.getElem?_append_left (by omega)];simpa using h2
  | succ i=>
   rw [List.getElem?_append_right (by rw [hx,Nat.add_mul];omega)];have e:(i+1)*k+j-x.length=i*k+j:=by rw [hx,Nat.add_mul];omega
   rw [e];exact flat_get k xs (fun y hy=>h y (by simp [hy])) i j r u (by simpa using h1) h2
structure lD (ok:Nat->Prop) (w:YJ) (k:Nat) (l:List D) (a:Option Addr) (cap:Nat):Prop where
 le:l.length<=cap
 max:cap<=maxLen
 at_:0<l.length->∃ b off,a=some ⟨b,off,none⟩/\ok b/\b<w.heap.size/\∀ i d,l[i]?=some d->∃ r,Rd ok w d r/\r.length=k/\∀ j u,r[j]?=some u->w.cell? ⟨b,off+(i*k+j),none⟩=some u
theorem Rd.aC {ok:Nat->Prop} {w:YJ} {k:Nat} {l:List D} {cs:List YL} (h:Rd ok w (.sl k l) cs):∃ a cap,cs=[.slice a l.length cap]/\lD ok w k l a cap:=by
 unfold Rd at h;obtain ⟨a,cap,rows,h1,h2,h3,h4,h5,h6⟩:=h;refine ⟨a,cap,h1,h2,h3,fun hp=>?_⟩;rcases h6 with h6 | ⟨b,off,h7,h8,hb,h9⟩
 ·omega
 ·refine ⟨b,off,h7,h8,hb,fun i d hd=>?_⟩;obtain ⟨r,hr,hrd⟩:=h4.get i d hd;exact ⟨r,hrd,h5 r (List.mem_of_getElem? hr),fun j u hu=>h9 _ u (flat_get k rows h5 i j r u hr hu)⟩
theorem Rd.jf {ok:Nat->Prop} {w:YJ} {fs:List D} {cs:List YL} (h:Rd ok w (.st fs) cs):∃ rows,aH ok w fs rows/\cs=rows.flatten:=by unfold Rd at h;exact h
theorem Rd.qH {ok:Nat->Prop} {w:YJ} {fs:List D} {rows:List (List YL)} (h:aH ok w fs rows):Rd ok w (.st fs) rows.flatten:=by unfold Rd;exact ⟨rows,h,rfl⟩
theorem aH.ay {ok:Nat->Prop} {w:YJ} {d:D} {ds:List D} {rows:List (List YL)} (h:aH ok w (d::ds) rows):∃ r rs,rows=r::rs/\Rd ok w d r/\aH ok w ds rs:=by unfold aH at h;exact h
theorem aH.aZ {ok:Nat->Prop} {w:YJ} {rows:List (List YL)} (h:aH ok w [] rows):rows=[]:=by unfold aH at h;exact h
theorem Rd.iK {ok:Nat->Prop} {w:YJ} {k:IntKind} {n:Int} {cs:List YL} (h:Rd ok w (.int k n) cs):cs=[.int k n]:=by unfold Rd at h;exact h
theorem Rd.lJ {ok:Nat->Prop} {w:YJ} {b:Bool} {cs:List YL} (h:Rd ok w (.bool b) cs):cs=[.bool b]:=by unfold Rd at h;exact h
theorem Rd.aP {ok:Nat->Prop} {w:YJ} {s:ByteArray} {cs:List YL} (h:Rd ok w (.str s) cs):cs=[.string s]:=by unfold Rd at h;exact h
theorem Rd.nM (ok:Nat->Prop) (w:YJ) (k:IntKind) (n:Int):Rd ok w (.int k n) [.int k n]:=by unfold Rd;rfl
theorem Rd.rQ (ok:Nat->Prop) (w:YJ) (b:Bool):Rd ok w (.bool b) [.bool b]:=by unfold Rd;rfl
theorem Rd.bG (ok:Nat->Prop) (w:YJ) (s:ByteArray):Rd ok w (.str s) [.string s]:=by unfold Rd;rfl
theorem Rd.aJ (ok:Nat->Prop) (w:YJ) (k:Nat):Rd ok w (.sl k []) [.slice none 0 0]:=by unfold Rd;exact ⟨none,0,[],rfl,Nat.le_refl _,X8 _,aH.none,by simp,.inl rfl⟩
theorem Rd.pz {ok:Nat->Prop} {w:YJ} {B:Nat} {e:TypeId} {k:Nat} {l:List D} {v:YL} {rows:List (List YL)} (ho:w.ownsRow B e k v l.length rows.flatten) (h:aH ok w l rows) (hk:∀ r∈rows,r.length=k) (hok:∀ g,v.ownBlock=some g->ok g):Rd ok w (.sl k l) [v]:=by
 have hlt:=ho.lt;have hcl:∀ g cap,v=.slice (some ⟨g,0,none⟩) l.length cap->∀ j u,rows.flatten[j]?=some u->w.cell? ⟨g,0+j,none⟩=some u:=by rintro g cap rfl j u hu;rw [Nat.zero_add,<- ho.cells rfl j u hu];congr 1;unfold Addr.add;split<;>simp_all
 obtain ⟨h1,h2⟩:=ho;rcases h2 with ⟨rfl,hx⟩ | ⟨g,cap,cur,rfl,hg,hb,hn,hm,hcs,hx⟩
 ·unfold Rd;exact ⟨none,0,rows,by rw [hx],by omega,X8 _,h,hk,.inl hx⟩
 ·unfold Rd;exact ⟨_,cap,rows,rfl,hn,hm,h,hk,.inr ⟨g,0,rfl,hok g rfl,(hlt g rfl).2,hcl g cap rfl⟩⟩
def dL (l:List ByteArray):D:=.sl 1 (l.map D.str)
theorem aH.strs {ok:Nat->Prop} {w:YJ}:∀ (l:List ByteArray),aH ok w (l.map D.str) (l.map fun s=>[Value.string s])
 | []=>aH.none
 | s::l=>aH.cons (Rd.bG ok w s) (aH.strs l)
theorem jm:∀ (l:List ByteArray),(l.map fun s=>[Value.string s]).flatten=l.map Value.string
 | []=>rfl
 | s::l=>by simp [List.flatten_cons,jm l]
theorem aH.jl {ok:Nat->Prop} {w:YJ}:∀ (l:List ByteArray) (rows:List (List YL)),aH ok w (l.map D.str) rows->rows=l.map fun s=>[Value.string s]
 | [],_,h=>by exact h.aZ
 | s::l,_,h=>by
  obtain ⟨r,rs,rfl,h1,h2⟩:=h.ay;rw [h1.aP,aH.jl l rs h2];rfl
theorem Rd.uG {ok:Nat->Prop} {w:YJ} {B:Nat} {e:TypeId} {l:List ByteArray} {v:YL} (ho:w.ownsRow B e 1 v l.length (l.map Value.string)) (hok:∀ g,v.ownBlock=some g->ok g):Rd ok w (dL l) [v]:=by refine Rd.pz (rows:=l.map fun s=>[Value.string s]) (B:=B) (e:=e) ?_ (aH.strs l) (by simp) hok;rw [jm,List.length_map];exact ho
open Go.RowKit
structure Pr where
 key:ByteArray
 val:ByteArray
deriving DecidableEq
structure Ci where
 key:ByteArray
 pre:ByteArray
 suf:ByteArray
 bare:Bool
deriving DecidableEq
structure At where
 id:ByteArray
 cls:List ByteArray
 aS:List Pr
deriving DecidableEq
inductive ah where
 | mk (kind:Int) (text dest title:ByteArray) (at_:At) (args:List ByteArray) (fZ:List Ci) (kids:List ah)
inductive aj where
 | mk (kind level:Int) (info text dest title:ByteArray) (at_:At) (line:List ah) (kids:List aj)
def Pr.d (p:Pr):D:=.st [.str p.key,.str p.val]
def Ci.d (c:Ci):D:=.st [.str c.key,.str c.pre,.str c.suf,.bool c.bare]
def At.ds (a:At):List D:=[.str a.id,dL a.cls,.sl 2 (a.aS.map Pr.d)]
mutual
def ah.d:ah->D
 | .mk k t d ti a ar ci ks=>.st [.int .i64 k,.str t,.str d,.str ti,.st a.ds,dL ar,.sl 4 (ci.map Ci.d),.sl 10 (ah.dl ks)]
def ah.dl:List ah->List D
 | []=>[]
 | x::l=>x.d::ah.dl l
end
theorem ah.jW:∀ (l:List ah),ah.dl l=l.map ah.d
 | []=>by unfold ah.dl;rfl
 | x::l=>by rw [ah.dl,ah.jW l];rfl
mutual
def aj.d:aj->D
 | .mk k lv i t d ti a li ks=>.st [.int .i64 k,.int .i64 lv,.str i,.str t,.str d,.str ti,.st a.ds,.sl 10 (li.map ah.d),.sl 11 (aj.dl ks)]
def aj.dl:List aj->List D
 | []=>[]
 | x::l=>x.d::aj.dl l
end
theorem aj.jW:∀ (l:List aj),aj.dl l=l.map aj.d
 | []=>by unfold aj.dl;rfl
 | x::l=>by rw [aj.dl,aj.jW l];rfl
def fC (l:List ah):D:=.sl 10 (l.map ah.d)
def aY (l:List aj):D:=.sl 11 (l.map aj.d)
def DN (l:List Pr):D:=.sl 2 (l.map Pr.d)
def Gm (l:List Ci):D:=.sl 4 (l.map Ci.d)
variable {ok:Nat->Prop} {w:YJ}
theorem Pr.open_ {p:Pr} {cs:List YL} (h:Rd ok w p.d cs):cs=[.string p.key,.string p.val]:=by unfold Pr.d at h;obtain ⟨_,g0,rfl⟩:=h.jf;obtain ⟨_,_,rfl,h1,g1⟩:=g0.ay;obtain ⟨_,_,rfl,h2,g2⟩:=g1.ay;obtain rfl:=g2.aZ;obtain rfl:=h1.aP;obtain rfl:=h2.aP;rfl
theorem Ci.open_ {p:Ci} {cs:List YL} (h:Rd ok w p.d cs):cs=[.string p.key,.string p.pre,.string p.suf,.bool p.bare]:=by unfold Ci.d at h;obtain ⟨_,g0,rfl⟩:=h.jf;obtain ⟨_,_,rfl,h1,g1⟩:=g0.ay;obtain ⟨_,_,rfl,h2,g2⟩:=g1.ay;obtain ⟨_,_,rfl,h3,g3⟩:=g2.ay;obtain ⟨_,_,rfl,h4,g4⟩:=g3.ay;obtain rfl:=g4.aZ;obtain rfl:=h1.aP;obtain rfl:=h2.aP;obtain rfl:=h3.aP;obtain rfl:=h4.lJ;rfl
theorem Pr.mO (ok:Nat->Prop) (w:YJ) (p:Pr):Rd ok w p.d [.string p.key,.string p.val]:=
 Rd.qH (rows:=[[.string p.key],[.string p.val]]) (.cons (Rd.bG _ _ _) (.cons (Rd.bG _ _ _) .none))
theorem Ci.mO (ok:Nat->Prop) (w:YJ) (p:Ci):Rd ok w p.d [.string p.key,.string p.pre,.string p.suf,.bool p.bare]:=
 Rd.qH (rows:=[[.string p.key],[.string p.pre],[.string p.suf],[.bool p.bare]]) (.cons (Rd.bG _ _ _) (.cons (Rd.bG _ _ _) (.cons (Rd.bG _ _ _) (.cons (Rd.rQ _ _ _) .none))))
theorem Rd.iJ {k:Nat} {l:List D} {cs:List YL} (h:Rd ok w (.sl k l) cs):∃ v,cs=[v]/\Rd ok w (.sl k l) [v]:=by obtain ⟨a,cap,rfl,_⟩:=h.aC;exact ⟨_,rfl,h⟩
structure AtR (ok:Nat->Prop) (w:YJ) (a:At) (vc vp:YL):Prop where
 cls:Rd ok w (dL a.cls) [vc]
 aS:Rd ok w (DN a.aS) [vp]
theorem At.open_ {a:At} {cs:List YL} (h:Rd ok w (.st a.ds) cs):∃ vc vp,cs=[.string a.id,vc,vp]/\AtR ok w a vc vp:=by unfold At.ds at h;obtain ⟨_,g0,rfl⟩:=h.jf;obtain ⟨_,_,rfl,h1,g1⟩:=g0.ay;obtain ⟨_,_,rfl,h2,g2⟩:=g1.ay;obtain ⟨_,_,rfl,h3,g3⟩:=g2.ay;obtain ⟨vc,rfl,h2⟩:=Rd.iJ h2;obtain ⟨vp,rfl,h3⟩:=Rd.iJ h3;obtain rfl:=g3.aZ;obtain rfl:=h1.aP;exact ⟨vc,vp,rfl,h2,h3⟩
theorem At.mO {a:At} {vc vp:YL} (h:AtR ok w a vc vp):Rd ok w (.st a.ds) [.string a.id,vc,vp]:=
 Rd.qH (rows:=[[.string a.id],[vc],[vp]]) (.cons (Rd.bG _ _ _) (.cons h.cls (.cons h.aS .none)))
structure Gh (ok:Nat->Prop) (w:YJ) (at_:At) (args:List ByteArray) (fZ:List Ci) (kids:List ah) (vc vp va vi vk:YL):Prop where
 at_:AtR ok w at_ vc vp
 args:Rd ok w (dL args) [va]
 fZ:Rd ok w (Gm fZ) [vi]
 kids:Rd ok w (fC kids) [vk]
theorem ah.open_ {k:Int} {t d ti:ByteArray} {a:At} {ar:List ByteArray} {ci:List Ci} {ks:List ah} {cs:List YL} (h:Rd ok w (ah.mk k t d ti a ar ci ks).d cs) : ∃ vc vp va vi vk,cs=[.int .i64 k,.string t,.string d,.string ti,.string a.id,vc,vp,va,vi,vk]/\Gh ok w a ar ci ks vc vp va vi vk:=by unfold ah.d at h;obtain ⟨_,g0,rfl⟩:=h.jf;obtain ⟨_,_,rfl,h1,g1⟩:=g0.ay;obtain ⟨_,_,rfl,h2,g2⟩:=g1.ay;obtain ⟨_,_,rfl,h3,g3⟩:=g2.ay;obtain ⟨_,_,rfl,h4,g4⟩:=g3.ay;obtain ⟨_,_,rfl,h5,g5⟩:=g4.ay;obtain ⟨_,_,rfl,h6,g6⟩:=g5.ay;obtain ⟨_,_,rfl,h7,g7⟩:=g6.ay;obtain ⟨_,_,rfl,h8,g8⟩:=g7.ay;obtain ⟨vc,vp,rfl,ha⟩:=At.open_ h5;obtain ⟨va,rfl,h6⟩:=Rd.iJ h6;obtain ⟨vi,rfl,h7⟩:=Rd.iJ h7;obtain ⟨vk,rfl,h8⟩:=Rd.iJ h8;rw [ah.jW] at h8;obtain rfl:=g8.aZ;obtain rfl:=h1.iK;obtain rfl:=h2.aP;obtain rfl:=h3.aP;obtain rfl:=h4.aP;exact ⟨vc,vp,va,vi,vk,rfl,ha,h6,h7,h8⟩
theorem ah.mO (k:Int) (t d ti:ByteArray) {a:At} {ar:List ByteArray} {ci:List Ci} {ks:List ah} {vc vp va vi vk:YL} (h:Gh ok w a ar ci ks vc vp va vi vk) : Rd ok w (ah.mk k t d ti a ar ci ks).d [.int .i64 k,.string t,.string d,.string ti,.string a.id,vc,vp,va,vi,vk]:=by
 unfold ah.d;rw [ah.jW];exact Rd.qH (rows:=[[.int .i64 k],[.string t],[.string d],[.string ti],[.string a.id,vc,vp],[va],[vi],[vk]])
  (.cons (Rd.nM _ _ _ _) (.cons (Rd.bG _ _ _) (.cons (Rd.bG _ _ _) (.cons (Rd.bG _ _ _) (.cons (At.mO h.at_) (.cons h.args (.cons h.fZ (.cons h.kids .none))))))))
structure wS (ok:Nat->Prop) (w:YJ) (at_:At) (line:List ah) (kids:List aj) (vc vp vl vk:YL):Prop where
 at_:AtR ok w at_ vc vp
 line:Rd ok w (fC line) [vl]
 kids:Rd ok w (aY kids) [vk]
theorem aj.open_ {k lv:Int} {i t d ti:ByteArray} {a:At} {li:List ah} {ks:List aj} {cs:List YL} (h:Rd ok w (aj.mk k lv i t d ti a li ks).d cs) : ∃ vc vp vl vk,cs=[.int .i64 k,.int .i64 lv,.string i,.string t,.string d,.string ti,.string a.id,vc,vp,vl,vk]/\wS ok w a li ks vc vp vl vk:=by unfold aj.d at h;obtain ⟨_,g0,rfl⟩:=h.jf;obtain ⟨_,_,rfl,h1,g1⟩:=g0.ay;obtain ⟨_,_,rfl,h2,g2⟩:=g1.ay;obtain ⟨_,_,rfl,h3,g3⟩:=g2.ay;obtain ⟨_,_,rfl,h4,g4⟩:=g3.ay;obtain ⟨_,_,rfl,h5,g5⟩:=g4.ay;obtain ⟨_,_,rfl,h6,g6⟩:=g5.ay;obtain ⟨_,_,rfl,h7,g7⟩:=g6.ay;obtain ⟨_,_,rfl,h8,g8⟩:=g7.ay;obtain ⟨_,_,rfl,h9,g9⟩:=g8.ay;obtain ⟨vc,vp,rfl,ha⟩:=At.open_ h7;obtain ⟨vl,rfl,h8⟩:=Rd.iJ h8;obtain ⟨vk,rfl,h9⟩:=Rd.iJ h9;rw [aj.jW] at h9;obtain rfl:=g9.aZ;obtain rfl:=h1.iK;obtain rfl:=h2.iK;obtain rfl:=h3.aP;obtain rfl:=h4.aP;obtain rfl:=h5.aP;obtain rfl:=h6.aP;exact ⟨vc,vp,vl,vk,rfl,ha,h8,h9⟩
theorem aj.mO (k lv:Int) (i t d ti:ByteArray) {a:At} {li:List ah} {ks:List aj} {vc vp vl vk:YL} (h:wS ok w a li ks vc vp vl vk) : Rd ok w (aj.mk k lv i t d ti a li ks).d [.int .i64 k,.int .i64 lv,.string i,.string t,.string d,.string ti,.string a.id,vc,vp,vl,vk]:=by
 unfold aj.d;rw [aj.jW];exact Rd.qH (rows:=[[.int .i64 k],[.int .i64 lv],[.string i],[.string t],[.string d],[.string ti],[.string a.id,vc,vp],[vl],[vk]])
  (.cons (Rd.nM _ _ _ _) (.cons (Rd.nM _ _ _ _) (.cons (Rd.bG _ _ _) (.cons (Rd.bG _ _ _) (.cons (Rd.bG _ _ _) (.cons (Rd.bG _ _ _) (.cons (At.mO h.at_) (.cons h.line (.cons h.kids .none)))))))))
open Go.RowKit
mutual
def ah.sz:ah->Nat
 | .mk _ _ _ _ _ _ _ ks=>1+ah.aV ks
def ah.aV:List ah->Nat
 | []=>0
 | x::l=>x.sz+ah.aV l
end
mutual
def aj.sz:aj->Nat
 | .mk _ _ _ _ _ _ _ _ ks=>1+aj.aV ks
def aj.aV:List aj->Nat
 | []=>0
 | x::l=>x.sz+aj.aV l
end
theorem ah.cZ:∀ (l:List ah) (k:Nat) (x:ah),l[k]?=some x->x.sz<=ah.aV l
 | [],_,_,h=>by simp at h
 | y::l,0,x,h=>by simp at h;subst h;rw [ah.aV];omega
 | y::l,k+1,x,h=>by
  have:=ah.cZ l k x (by simpa using h);rw [ah.aV];omega
theorem aj.cZ:∀ (l:List aj) (k:Nat) (x:aj),l[k]?=some x->x.sz<=aj.aV l
 | [],_,_,h=>by simp at h
 | y::l,0,x,h=>by simp at h;subst h;rw [aj.aV];omega
 | y::l,k+1,x,h=>by
  have:=aj.cZ l k x (by simpa using h);rw [aj.aV];omega
variable {ok:Nat->Prop} {w:YJ}
structure dI (w:YJ) (b o:Nat) (k:Int) (t d ti:ByteArray) (id:ByteArray) (vc vp va vi vk:YL):Prop where
 c0:w.cell? ⟨b,o,none⟩=some (.int .i64 k)
 c1:w.cell? ⟨b,o+1,none⟩=some (.string t)
 c2:w.cell? ⟨b,o+2,none⟩=some (.string d)
 c3:w.cell? ⟨b,o+3,none⟩=some (.string ti)
 c4:w.cell? ⟨b,o+4,none⟩=some (.string id)
 c5:w.cell? ⟨b,o+5,none⟩=some vc
 c6:w.cell? ⟨b,o+6,none⟩=some vp
 c7:w.cell? ⟨b,o+7,none⟩=some va
 c8:w.cell? ⟨b,o+8,none⟩=some vi
 c9:w.cell? ⟨b,o+9,none⟩=some vk
theorem dI.of {w:YJ} {b o:Nat} {cs:List YL} {k:Int} {t d ti id:ByteArray} {vc vp va vi vk:YL} (hcs:cs=[.int .i64 k,.string t,.string d,.string ti,.string id,vc,vp,va,vi,vk]) (h:∀ j u,cs[j]?=some u->w.cell? ⟨b,o+j,none⟩=some u):dI w b o k t d ti id vc vp va vi vk:=by subst hcs;exact ⟨h 0 _ rfl,h 1 _ rfl,h 2 _ rfl,h 3 _ rfl,h 4 _ rfl,h 5 _ rfl,h 6 _ rfl,h 7 _ rfl,h 8 _ rfl,h 9 _ rfl⟩
theorem gN {l:List ah} {a:Option Addr} {cap:Nat} (h:lD ok w 10 (l.map ah.d) a cap) {k:Nat} {kd:Int} {t d ti:ByteArray} {at_:At} {ar:List ByteArray} {ci:List Ci} {ks:List ah} (hk:l[k]?=some (.mk kd t d ti at_ ar ci ks)) : ∃ b off vc vp va vi vk,a=some ⟨b,off,none⟩/\ok b/\b<w.heap.size/\dI w b (off+k*10) kd t d ti at_.id vc vp va vi vk/\Gh ok w at_ ar ci ks vc vp va vi vk:=by
 have hlt:k<l.length:=(List.getElem?_eq_some_iff.1 hk).1;obtain ⟨b,off,ha,hok,hb,hc⟩:=h.at_ (by simpa using Nat.lt_of_le_of_lt (X8 _) hlt)
 obtain ⟨r,hr,hl,hcell⟩:=hc k _ (by rw [List.getElem?_map,hk];rfl);obtain ⟨vc,vp,va,vi,vk,hcs,hR⟩:=ah.open_ hr;exact ⟨b,off,vc,vp,va,vi,vk,ha,hok,hb,dI.of hcs (fun j u hu=>by rw [Nat.add_assoc];exact hcell j u hu),hR⟩
structure fG (w:YJ) (b o:Nat) (k lv:Int) (i t d ti:ByteArray) (id:ByteArray) (vc vp vl vk:YL):Prop where
 c0:w.cell? ⟨b,o,none⟩=some (.int .i64 k)
 c1:w.cell? ⟨b,o+1,none⟩=some (.int .i64 lv)
 c2:w.cell? ⟨b,o+2,none⟩=some (.string i)
 c3:w.cell? ⟨b,o+3,none⟩=some (.string t)
 c4:w.cell? ⟨b,o+4,none⟩=some (.string d)
 c5:w.cell? ⟨b,o+5,none⟩=some (.string ti)
 c6:w.cell? ⟨b,o+6,none⟩=some (.string id)
 c7:w.cell? ⟨b,o+7,none⟩=some vc
 c8:w.cell? ⟨b,o+8,none⟩=some vp
 c9:w.cell? ⟨b,o+9,none⟩=some vl
 c10:w.cell? ⟨b,o+10,none⟩=some vk
theorem fG.of {w:YJ} {b o:Nat} {cs:List YL} {k lv:Int} {i t d ti id:ByteArray} {vc vp vl vk:YL} (hcs:cs=[.int .i64 k,.int .i64 lv,.string i,.string t,.string d,.string ti,.string id,vc,vp,vl,vk]) (h:∀ j u,cs[j]?=some u->w.cell? ⟨b,o+j,none⟩=some u):fG w b o k lv i t d ti id vc vp vl vk:=by subst hcs;exact ⟨h 0 _ rfl,h 1 _ rfl,h 2 _ rfl,h 3 _ rfl,h 4 _ rfl,h 5 _ rfl,h 6 _ rfl,h 7 _ rfl,h 8 _ rfl,h 9 _ rfl,h 10 _ rfl⟩
theorem jv {l:List aj} {a:Option Addr} {cap:Nat} (h:lD ok w 11 (l.map aj.d) a cap) {k:Nat} {kd lv:Int} {i t d ti:ByteArray} {at_:At} {li:List ah} {ks:List aj} (hk:l[k]?=some (.mk kd lv i t d ti at_ li ks)) : ∃ b off vc vp vl vk,a=some ⟨b,off,none⟩/\ok b/\b<w.heap.size/\fG w b (off+k*11) kd lv i t d ti at_.id vc vp vl vk/\wS ok w at_ li ks vc vp vl vk:=by
 have hlt:k<l.length:=(List.getElem?_eq_some_iff.1 hk).1;obtain ⟨b,off,ha,hok,hb,hc⟩:=h.at_ (by simpa using Nat.lt_of_le_of_lt (X8 _) hlt)
 obtain ⟨r,hr,hl,hcell⟩:=hc k _ (by rw [List.getElem?_map,hk];rfl);obtain ⟨vc,vp,vl,vk,hcs,hR⟩:=aj.open_ hr;exact ⟨b,off,vc,vp,vl,vk,ha,hok,hb,fG.of hcs (fun j u hu=>by rw [Nat.add_assoc];exact hcell j u hu),hR⟩
open Go.RowKit
set_option linter.unusedVariables false
set_option linter.unusedSimpArgs false
open Go.RowKit
theorem qw {a b:Bool} (h:a=b):Ending.returned (.bool a)=.returned (.bool b):=by rw [h]
theorem fF {a b:Int} (h:a=b):Ending.returned (.int .i64 a)=.returned (.int .i64 b):=by rw [h]
theorem tH (c:Nat) (w:YJ) (hc:c<=1114111) : Calls Tryz.prog 125 #[.int .i64 (c:Int)] w fun e w'=>e=.returned (.bool (Le c))/\w=w':=by
 go_enter Tryz.func125,Tryz.ntmps125;go_wp2;all_goals
  go_ret;refine ⟨qw ?_,rfl⟩;unfold Le
  (try simp only [beq_iff_eq,beq_eq_false_iff_ne,ne_eq] at *)
  rw [XY];simp;omega
theorem vG (c:Nat) (w:YJ) (hc:c<=1114111) : Calls Tryz.prog 121 #[.int .i64 (c:Int)] w fun e w'=>e=.returned (.bool (Ef c))/\w=w':=by
 go_enter Tryz.func121,Tryz.ntmps121;go_wp2;all_goals
  go_ret;refine ⟨qw ?_,rfl⟩;unfold Ef jE;rw [XY];simp
  (try omega)
theorem sG (c:Nat) (w:YJ) (hc:c<=1114111) : Calls Tryz.prog 120 #[.int .i64 (c:Int)] w fun e w'=>e=.returned (.bool (kR c))/\w=w':=by
 go_enter Tryz.func120,Tryz.ntmps120;go_wp2;all_goals
  go_ret;refine ⟨qw ?_,rfl⟩;unfold kR jE
  (try simp only [beq_iff_eq,beq_eq_false_iff_ne,ne_eq] at *)
  simp;omega
theorem tK (c:Nat) (w:YJ) (hc:c<=1114111) : Calls Tryz.prog 151 #[.int .i64 (c:Int)] w fun e w'=>e=.returned (.int .i64 (fI c:Nat))/\w=w':=by
 go_enter Tryz.func151,Tryz.ntmps151;go_wp2;all_goals
  go_ret;refine ⟨fF ?_,rfl⟩;unfold fI
  (try simp only [bne_iff_ne,bne_eq_false_iff_eq,ne_eq] at *)
  (repeat' split)<;>omega
open Go.RowKit
def dB (c:Nat):Bool:=jE c 97 122||jE c 65 90
def yZ (c:Nat):Bool:=(decide (c=45)||decide (c=95)||decide (c=46)||decide (c=58))||(dB c||jE c 48 57)
theorem mH (c:Nat) (w:YJ) (hc:c<256) : Calls Tryz.prog 27 #[.int .u8 (c:Int)] w fun e w'=>e=.returned (.bool (dB c))/\w=w':=by
 go_enter Tryz.func27,Tryz.ntmps27;go_wp2;all_goals
  go_ret;refine ⟨qw ?_,rfl⟩;unfold dB jE;rw [XY];simp
  (try omega)
theorem y7 (c:Nat) (w:YJ) (hc:c<256) : Calls Tryz.prog 47 #[.int .u8 (c:Int)] w fun e w'=>e=.returned (.bool (yZ c))/\w=w':=by
 have LT:=hid (fun w=>mH c w hc);by_cases h:c=45\/c=95\/c=46\/c=58
 ·have hv:yZ c=true:=by unfold yZ;rcases h with h | h | h | h<;>simp [h]
  rw [hv];clear hv;rcases h with rfl | rfl | rfl | rfl
  all_goals
   go_enter Tryz.func47,Tryz.ntmps47;go_wp2;go_ret;exact ⟨rfl,rfl⟩
 ·have e1:((c:Int)==45)=false:=by rw [beq_eq_false_iff_ne];omega
  have e2:((c:Int)==95)=false:=by rw [beq_eq_false_iff_ne];omega
  have e3:((c:Int)==46)=false:=by rw [beq_eq_false_iff_ne];omega
  have e4:((c:Int)==58)=false:=by rw [beq_eq_false_iff_ne];omega
  have hv:yZ c=(dB c||jE c 48 57):=by unfold yZ;rw [show (decide (c=45)||decide (c=95)||decide (c=46)||decide (c=58))=false by simp;omega];rfl
  have HV:=hid hv;generalize yZ c=V at *;clear hv h;cases hl:dB c with
  | true=>
   rw [hl] at LT;go_enter Tryz.func47,Tryz.ntmps47;go_wp2_with fail
   refine (LT.out _).mono ?_;rintro e w1 ⟨rfl,rfl⟩;go_wp2;go_ret;exact ⟨by rw [HV.out,hl];rfl,rfl⟩
  | false=>
   rw [hl] at LT;rw [hl] at HV;by_cases h48:48<=c
   ·have q1:decide ((48:Int)<=(c:Int))=true:=by simp;omega
    go_enter Tryz.func47,Tryz.ntmps47;go_wp2_with fail
    refine (LT.out _).mono ?_;rintro e w1 ⟨rfl,rfl⟩;go_wp2;go_ret;refine ⟨?_,rfl⟩;rw [HV.out];refine qw ?_;rw [XY];simp [jE];omega
   ·have q1:decide ((48:Int)<=(c:Int))=false:=by simp;omega
    go_enter Tryz.func47,Tryz.ntmps47;go_wp2_with fail
    refine (LT.out _).mono ?_;rintro e w1 ⟨rfl,rfl⟩;go_wp2;go_ret;refine ⟨?_,rfl⟩;rw [HV.out];refine qw ?_;rw [XY];simp [jE];omega
def KY (c:UInt8):Bool:=yZ c.toNat
theorem lV (p:UInt8->Bool):∀ (l:List UInt8) (k:Nat),k<=l.length->(∀ j x,j<k->l[j]?=some x->p x=true)->(∀ x,l[k]?=some x->p x=false)->(l.takeWhile p).length=k
 | [],k,h,_,_=>by simp at h;subst h;rfl
 | x::l,0,_,_,h2=>by rw [List.takeWhile_cons,h2 x rfl];rfl
 | x::l,k+1,h,h1,h2=>by
  rw [List.takeWhile_cons,h1 0 x (by omega) rfl];simp;exact lV p l k (by simpa using h) (fun j y hj hy=>h1 (j+1) y (by omega) (by simpa using hy)) (fun y hy=>h2 y (by simpa using hy))
def kX (s:ByteArray):Nat:=(s.data.toList.takeWhile KY).length
theorem bP (s:ByteArray) (k:Nat) (h:k<s.size):s.data.toList[k]?=some s[k]:=by rw [List.getElem?_eq_getElem (by simpa using h)];rfl
theorem vX (s:ByteArray) (w:YJ) (hs:s.size<=1000000000) : Calls Tryz.prog 28 #[.string s,.int .i64 0] w fun e w'=>e=.returned (.int .i64 (kX s:Nat))/\w=w':=by
 obtain ⟨V,hV⟩:∃ V,V=kX s:=⟨_,rfl⟩;rw [<- hV];have HV:=hid hV;clear hV;go_enter Tryz.func28,Tryz.ntmps28;go_wp2
 go_loop [1] (fun vi=>∃ k:Nat,k<=s.size/\vi=.int .i64 k/\∀ j x,j<k->s.data.toList[j]?=some x->KY x=true) (fun i=>s.size-(intOf i).toNat)
 case atStart=>exact ⟨0,X8 _,rfl,fun j x hj=>by omega⟩
 case round=>
  obtain ⟨k,hk,rfl,hall⟩:=hrel;have HA:=hid hall;clear hall;by_cases hlt:k<s.size
  ·have hgl:=UInt8.toNat_lt s[k];have IN:=hid (fun w=>y7 s[k].toNat w hgl);have HG:=hid (bP s k hlt);cases hn:yZ s[k].toNat with
   | true=>
    rw [hn] at IN;have HN:=hid hn;clear hn;go_wp2_with fail
    refine (IN.out _).mono ?_;rintro e w1 ⟨rfl,rfl⟩;go_wp2
    go_round
    case rel=>
     refine ⟨k+1,by omega,by go_num,fun j x hj hx=>?_⟩;rcases Nat.lt_or_ge j k with h | h
     ·exact HA.out j x h hx
     ·have:j=k:=by omega
      subst this;rw [HG.out] at hx;obtain rfl:=Option.some.inj hx;exact HN.out
    case measure=>simp [intOf];omega
   | false=>
    rw [hn] at IN;have hw:V=k:=by rw [HV.out];exact lV KY _ k (by simpa using hk) HA.out (fun x hx=>by rw [HG.out] at hx;obtain rfl:=Option.some.inj hx;exact hn)
    have HW:=hid hw;clear hn hw;go_wp2_with fail
    refine (IN.out _).mono ?_;rintro e w1 ⟨rfl,rfl⟩;go_wp2;go_ret;exact ⟨by rw [HW.out];rfl,rfl⟩
  ·have hw:V=k:=by
    rw [HV.out];refine lV KY _ k (by simpa using hk) HA.out (fun x hx=>?_);have:=(List.getElem?_eq_some_iff.1 hx).1;have e:s.data.toList.length=s.size:=by simp
    omega
   have HW:=hid hw;clear hw;go_wp2;go_ret;exact ⟨by rw [HW.out];rfl,rfl⟩
def iA (s:ByteArray):Bool:=decide (1<=s.size)&&decide (s.size<=60)&&(match s.data.toList with | []=>false | c::_=>dB c.toNat)&&decide (kX s=s.size)
theorem dM (s:ByteArray) (w:YJ) (hs:s.size<=1000000000) : Calls Tryz.prog 16 #[.string s] w fun e w'=>e=.returned (.bool (iA s))/\w=w':=by
 by_cases h0:s.size=0
 ·have hv:iA s=false:=by unfold iA;simp [h0]
  rw [hv];have e0:((s.size:Int)==0)=true:=by simp [h0]
  clear hv h0;go_enter Tryz.func16,Tryz.ntmps16;go_wp2;go_ret;exact ⟨rfl,rfl⟩
 have e0:((s.size:Int)==0)=false:=by rw [beq_eq_false_iff_ne];omega
 by_cases TJ:60<s.size
 ·have hv:iA s=false:=by unfold iA;simp;omega
  rw [hv];have e1:decide ((60:Int)<(s.size:Int))=true:=by simp;omega
  clear hv;go_enter Tryz.func16,Tryz.ntmps16;go_wp2;go_ret;exact ⟨rfl,rfl⟩
 have e1:decide ((60:Int)<(s.size:Int))=false:=by simp;omega
 have hp:0<s.size:=by omega
 have hg:=bP s 0 hp;obtain ⟨c,hc⟩:∃ c,s[0]=c:=⟨_,rfl⟩;rw [hc] at hg;have hcl:=UInt8.toNat_lt c;have LT:=hid (fun w=>mH c.toNat w hcl);have WE:=hid (fun w=>vX s w hs);have hl:s.data.toList=c::s.data.toList.tail:=by
  cases h:s.data.toList with
  | nil=>rw [h] at hg;simp at hg
  | cons a l=>rw [h] at hg;simp at hg;rw [hg];rfl
 have hv:iA s=(dB c.toNat&&decide (kX s=s.size)):=by unfold iA;rw [hl,decide_eq_true (show 1<=s.size by omega),decide_eq_true (show s.size<=60 by omega)];rfl
 have HV:=hid hv;generalize iA s=V at *;generalize kX s=E at *;clear hv hl hg;cases hlt:dB c.toNat with
 | false=>
  rw [hlt] at LT;rw [hlt] at HV;go_enter Tryz.func16,Tryz.ntmps16;go_wp2_with fail
  refine (LT.out _).mono ?_;rintro e w1 ⟨rfl,rfl⟩;go_wp2;go_ret;exact ⟨by rw [HV.out];rfl,rfl⟩
 | true=>
  rw [hlt] at LT;rw [hlt] at HV;go_enter Tryz.func16,Tryz.ntmps16;go_wp2_with fail
  refine (LT.out _).mono ?_;rintro e w1 ⟨rfl,rfl⟩;go_wp2_with fail
  refine (WE.out _).mono ?_;rintro e w1 ⟨rfl,rfl⟩;go_wp2;go_ret;refine ⟨?_,rfl⟩;rw [HV.out];refine qw ?_;rw [XY];simp
  (try omega)
end Go.Proofs.YtnmldmofggkoeaaGreatDoor

