/- Contracts of publisherref01.Text, Points, Fold. -/
import Derived.Test.YtnmldmofggkoeaaGreatDoorKWords
import Derived.Test.YtnmldmofggkoeaaGreatDoorKAppend
import Derived.WalkSpells
set_option maxHeartbeats 1000000
set_option maxRecDepth 100000
open Go.Lib (hid)
namespace Go.Proofs.YtnmldmofggkoeaaGreatDoor
open Go.RowKit
set_option linter.unusedVariables false
set_option linter.unusedSimpArgs false
theorem Cg:(Tryz.prog.info? 3).map (fun i=>(i.zero,i.size,i.bytes))=some (some (.int .i64 0),1,8):=by kernel_rfl
theorem infoP:(Tryz.prog.info? 76).map (fun i=>(i.zero,i.size,i.bytes))=some (some (.agg #[.int .i64 0,.int .i64 0]),2,16):=by kernel_rfl
def eO (s:ByteArray):Nat->Nat->List (Nat × Nat)
 | 0,_=>[]
 | f+1,i=>if i<s.size then Utf8.decode s i::eO s f (i+(Utf8.decode s i).2) else []
theorem pO (s:ByteArray):∀ (f i:Nat),(eO s f i).map (·.1)=dw s f i
 | 0,_=>rfl
 | f+1,i=>by
  rw [eO,dw];split
  ·rw [List.map_cons,pO s f]
  ·rfl
theorem oD (s:ByteArray) (f i:Nat) (h:¬ i<s.size):eO s f i=[]:=by
 cases f with
 | zero=>rfl
 | succ f=>rw [eO,if_neg h]
theorem EN (s:ByteArray) (f i:Nat):(eO s f i).length<=s.size-i:=by have h:=congrArg List.length (pO s f i);rw [List.length_map] at h;rw [h];exact pG s f i
theorem sF (s:ByteArray):∀ (f i:Nat),∀ p∈eO s f i,p.1<=1114111
 | 0,_=>by simp [eO]
 | f+1,i=>by
  rw [eO];split
  ·intro p hp;rcases List.mem_cons.1 hp with rfl | hp
   ·exact Lib.rune_le s i
   ·exact sF s f _ p hp
  ·simp
def pts (s:ByteArray):List (Nat × Nat):=eO s s.size 0
def rE (p:Nat × Nat):List Value:=[.int .i64 (p.1:Int),.int .i64 (p.2:Int)]
def gY (l:List (Nat × Nat)):List (List Value):=l.map rE
theorem wu (l:List (Nat × Nat)):∀ r∈gY l,r.length=2:=by intro r hr;obtain ⟨p,_,rfl⟩:=List.mem_map.1 hr;rfl
theorem wE (l:List (Nat × Nat)) (p:Nat × Nat):(gY (l++[p])).flatten=(gY l).flatten++rE p:=by simp [gY]
def OH (w wr:World) (s:ByteArray) (R:List (Nat × Nat)) (v vi:Value):Prop:=
 ∃ (i f:Nat) (acc:List (Nat × Nat)),i<=s.size/\s.size<=i+f/\acc.length<=i/\acc++eO s f i=R/\vi=.int .i64 i/\wr.ownsRow w.heap.size 76 2 v acc.length (gY acc).flatten/\Below w.heap.size w wr
theorem wH (s:ByteArray) (w:World) (hs:s.size<=10000000000) : Calls Tryz.prog 29 #[.string s] w fun e w'=>∃ v,e=.returned v/\w'.ownsRow w.heap.size 76 2 v (pts s).length (gY (pts s)).flatten/\Below w.heap.size w w':=by
 obtain ⟨i0,hi,hz0,hz1,hz2⟩:=info_parts infoP;obtain ⟨R,hR⟩:∃ R,R=pts s:=⟨_,rfl⟩;rw [<- hR];have HR:Hid ([]++eO s s.size 0=R):=by rw [hR];rfl
 clear hR;go_enter Tryz.func29,Tryz.ntmps29;go_wp2
 go_loopw [3,4] (fun v vi wr=>OH w wr s R v vi) (fun _ i _=>s.size-(intOf i).toNat)
 case atStart=>exact ⟨0,s.size,[],by omega,by omega,by simp,HR.out,rfl,⟨rfl,.inl ⟨rfl,rfl⟩⟩,Below.refl _ _⟩
 case round=>
  obtain ⟨i,f,acc,h1,h2,h3,h4,rfl,hown,hbel⟩:=hrel;have H4:=hid h4;have HO:=hid hown;clear h4 hown;by_cases hlt:i<s.size
  ·have AT:=hid (KZ s i (by omega) hlt);have hd:=kg s i hlt;have hw:=fq s i;have hst:eO s f i=Utf8.decode s i::eO s (f-1) (i+(Utf8.decode s i).2):=by
    obtain ⟨f',rfl⟩:∃ f',f=f'+1:=⟨f-1,by omega⟩;rw [eO,if_pos hlt];rfl
   have HST:=hid hst;clear hst;generalize Utf8.decode s i=d at *;obtain ⟨d1,d2⟩:=d;simp only at hd hw AT HST;go_wp2_with fail
   refine (AT.out _).mono ?_;rintro e w1 ⟨rfl,hb1⟩;have hown1:=Jo HO.out hb1;have IX:=aL hbel hb1;have hsz1:=IX.size;clear AT;go_wp2_with (at_builtin;refine wpList_append_own _ rfl _ _ 73 rfl w.heap.size 76 i0 (.agg #[.int .i64 0,.int .i64 0]) 2 16 Tryz.underlying73 hi hz0 hz1 hz2 rfl (by decide) _ _ _ rfl ((hown1.alloc _).alloc _) ⟨w1.heap.size+1,0,none⟩ 1 1 (rE (d1,d2)) rfl ?c0 ?c1 ?c2 ?c3 ?c4 ?c5 ?_)
   case c0=>rfl
   case c1=>
    intro j u hj;have:=gH (w1.alloc (.cells #[.int .i64 (d1:Int),.int .i64 (d2:Int)] 76)) (rE (d1,d2)) 76 j u hj
    rwa [World.size_alloc] at this
   case c2=>intro u hu;simp [rE] at hu;rcases hu with rfl | rfl<;>rfl
   case c3=>unfold maxLen;omega
   case c4=>omega
   case c5=>simp;omega
   intro v' w3 hown' hgrow _;have c5:w3.cell? ⟨w1.heap.size,1,none⟩=some (.int .i64 (d2:Int)):=WZ hgrow (past (Eb w1 [.int .i64 (d1:Int),.int .i64 (d2:Int)] _ 1 _ rfl) _) (own_ne hown1 (Nat.le_refl _));have fQ:Below w.heap.size w w3:=((IX.alloc hsz1 _).alloc (by simp;omega) _).grown hgrow (by simp;omega) (fun j hj=>(hown1.lt j hj).1);have Kc:=hid hown';clear hown' hgrow hown1;go_wp2;go_roundw;case rel=>
    refine ⟨i+d2,f-1,acc++[(d1,d2)],by omega,by omega,by simp;omega,?_,by go_num,?_,fQ⟩
    ·rw [<- H4.out,HST.out];simp
    ·rw [wE,List.length_append];exact Kc.out
   case measure=>simp [intOf];omega
  ·have hE:=oD s f i hlt;have HE:Hid (acc=R):=by
    show acc=R;rw [<- H4.out,hE,List.append_nil]
   have hO:=HO.out;clear HO hE;go_wp2;go_ret;exact ⟨_,rfl,by rw [<- HE.out];exact hO,hbel⟩
theorem lu {w:World} {B:Nat} {e:TypeId} {k:Nat} {v:Value} {n:Nat} {xs:List Value} (h:w.ownsRow B e k v n xs):∃ a c,v=.slice a n c:=by
 rcases h.2 with ⟨rfl,rfl⟩ | ⟨g,cap,cur,rfl,_⟩
 ·exact ⟨none,0,rfl⟩
 ·exact ⟨_,_,rfl⟩
theorem BS {α:Type} (l:List α) (k:Nat) (x:α) (h:l[k]?=some x):l.drop k=x::l.drop (k+1):=by obtain ⟨hk,rfl⟩:=List.getElem?_eq_some_iff.1 h;exact List.drop_eq_getElem_cons hk
end Go.Proofs.YtnmldmofggkoeaaGreatDoor

