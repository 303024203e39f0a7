/- The words of a string, plainly: the loop of the reference, and that it gives the fields of the library. The widths of code points and of strings, plainly. Words joined with gaps, plainly. The best division of words into lines, plainly: the table that both programs fill from its end, and what is read off it. Plainly: no division into lines that fit costs less than the one that the table gives, and the table's own division costs what it says. The lines of a string, plainly: what is cut at the first words of the best division. -/
import Derived.Lib.FieldsP
import Derived.Lib.Join
namespace Go.Proofs.YtnmldmofggkoeaaGreatDoor
open Nat renaming le_refl->XU
open List renaming mem_of_getElem?->X9
set_option linter.unusedVariables false
set_option linter.unusedSimpArgs false
open Go.Lib
def pI (c:Nat):Bool:=(c:Int)==32||(c:Int)==10
theorem EJ (s:ByteArray) (i:Nat) (h:i<s.size):i+(Utf8.decode s i).2<=s.size:=by have:=decodeN_le_n' (s.size-i) (s.get! i).toNat (s.get! (i+1)).toNat (s.get! (i+2)).toNat (s.get! (i+3)).toNat (by omega);rw [decode_at];omega
def kY (s:ByteArray):Nat->Nat->Nat->List ByteArray->List ByteArray × Nat
  | 0,_,fr,acc=>(acc,fr)
  | f+1,i,fr,acc=>
    if i<s.size then
      (if pI (Utf8.decode s i).1 then kY s f (i+(Utf8.decode s i).2) (i+(Utf8.decode s i).2) (if fr<i then acc++[s.extract fr i] else acc)
       else kY s f (i+(Utf8.decode s i).2) fr acc)
    else (acc,fr)
theorem EK (s:ByteArray) (f i fr:Nat) (acc:List ByteArray) (h:¬ i<s.size):kY s f i fr acc=(acc,fr):=by
  cases f<;>simp [kY,h]
def EL (s:ByteArray) (r:List ByteArray × Nat):List ByteArray:=if r.2<s.size then r.1++[s.extract r.2 s.size] else r.1
def jh (s:ByteArray):List ByteArray:=EL s (kY s s.size 0 0 [])
theorem zW (s:ByteArray) (f fr:Nat) (acc:List ByteArray) (st:Option Nat) (sp:List (Nat × Nat)) (h4:acc=sp.map (fun x=>s.extract x.1 x.2)) (h5:st=if fr<s.size then some fr else none) : (closeSpans s (spansFromP pI s f s.size st sp)).map (fun x=>s.extract x.1 x.2)=EL s (kY s f s.size fr acc):=by
  rw [EK s _ _ _ _ (Nat.lt_irrefl _),spansFromP_end _ _ _ _ _ _ (Nat.lt_irrefl _)];show _=if fr<s.size then acc++[s.extract fr s.size] else acc
  by_cases h:fr<s.size
  · rw [if_pos h] at h5 ⊢
    subst h5;simp [closeSpans,h4]
  · rw [if_neg h] at h5 ⊢
    subst h5;simp [closeSpans,h4]
theorem jc (s:ByteArray):∀ (f i fr:Nat) (acc:List ByteArray) (st:Option Nat) (sp:List (Nat × Nat)),fr<=i->i<=s.size->s.size<=i+f -> acc=sp.map (fun x=>s.extract x.1 x.2)->(st=if fr<i then some fr else none) -> (closeSpans s (spansFromP pI s f i st sp)).map (fun x=>s.extract x.1 x.2)=EL s (kY s f i fr acc)
  | 0,i,fr,acc,st,sp,h1,h2,h3,h4,h5=>by
    have hi:i=s.size:=by omega
    subst hi;exact zW s 0 fr acc st sp h4 h5
  | f+1,i,fr,acc,st,sp,h1,h2,h3,h4,h5=>by
    by_cases hi:i<s.size
    · have hd:=EJ s i hi
      have hw:1<=(Utf8.decode s i).2:=width_pos s i;unfold spansFromP kY;rw [if_pos hi,if_pos hi];by_cases hp:pI (Utf8.decode s i).1
      · rw [if_pos hp,if_pos hp]
        by_cases h:fr<i
        · rw [if_pos h] at h5 ⊢
          subst h5;exact jc s f _ _ _ _ _ (XU _) hd (by omega) (by simp [h4]) (by rw [if_neg (by omega)])
        · rw [if_neg h] at h5 ⊢
          subst h5;exact jc s f _ _ _ _ _ (XU _) hd (by omega) h4 (by rw [if_neg (by omega)])
      · rw [if_neg hp,if_neg hp]
        by_cases h:fr<i
        · rw [if_pos h] at h5
          subst h5;exact jc s f _ _ _ _ _ (by omega) hd (by omega) h4 (by rw [if_pos (by omega)])
        · rw [if_neg h] at h5
          subst h5;have hfi:fr=i:=by omega
          subst hfi;exact jc s f _ _ _ _ _ (by omega) hd (by omega) h4 (by rw [if_pos (by omega)])
    · have he:i=s.size:=by omega
      subst he;exact zW s _ fr acc st sp h4 h5
theorem sS (s:ByteArray):goFieldsP pI s=jh s:=
  jc s s.size 0 0 [] none [] (XU _) (Nat.zero_le _) (by omega) rfl rfl
theorem pJ (s:ByteArray):∀ (f i fr:Nat) (acc:List ByteArray),(kY s f i fr acc).1.length<=acc.length+f
  | 0,_,_,_=>by simp [kY]
  | f+1,i,fr,acc=>by
    rw [kY];split
    · split
      · refine Nat.le_trans (pJ s f _ _ _) ?_
        split<;>simp<;>omega
      · exact Nat.le_trans (pJ s f _ _ _) (by omega)
    · simp
def gW:List Nat:=[30,25,50,50,50,85,70,25,30,30,50,50,25,30,25,30,
  50,50,50,50,50,50,50,50,50,50,25,25,50,50,50,50,
  85,70,70,70,70,70,70,70,70,30,50,70,70,85,70,70,
  70,70,70,70,70,70,70,85,70,70,70,30,30,30,50,50,
  25,50,50,50,50,50,30,50,50,25,25,50,25,85,50,50,
  50,50,30,50,30,50,50,85,50,50,50,50,25,50,50]
def dV (c:Nat):Bool:=decide ((4352<=c/\c<=4447)\/(11904<=c/\c<=42191)\/(44032<=c/\c<=55203)\/(63744<=c/\c<=64255)\/(65072<=c/\c<=65103)\/(65281<=c/\c<=65376))
def dQ (c:Nat):Nat:=
  if c<32\/c=127\/(55296<=c/\c<=57343)\/1114111<c then 0
  else if c<127 then gW.getD (c-32) 0
  else if dV c=true then 100 else 60
theorem vY:∀ k:Fin 95,25<=gW.getD k.val 0/\gW.getD k.val 0<=85:=by decide
theorem rC (c:Nat):dQ c<=100:=by
  unfold dQ;split
  · omega
  · split
    · rename_i h1 h2
      have:=vY ⟨c-32,by omega⟩;simp only at this;omega
    · split<;>omega
theorem sU (c:Nat) (h:32<=c) (h':c<127):dQ c=gW.getD (c-32) 0:=by unfold dQ;rw [if_neg (by omega),if_pos h']
theorem jd (c:Nat) (h:c<32\/c=127\/(55296<=c/\c<=57343)\/1114111<c):dQ c=0:=by unfold dQ;rw [if_pos h]
theorem vZ (c:Nat) (h:127<c) (h1:¬ (55296<=c/\c<=57343)) (h2:c<=1114111):dQ c=if dV c=true then 100 else 60:=by unfold dQ;rw [if_neg (by omega),if_neg (by omega)]
def Cc (s:ByteArray):Nat->Nat->Nat
  | 0,_=>0
  | f+1,i=>if i<s.size then dQ (Utf8.decode s i).1+Cc s f (i+(Utf8.decode s i).2) else 0
def dD (s:ByteArray):Nat:=Cc s s.size 0
theorem sV (s:ByteArray) (f i:Nat) (h:¬ i<s.size):Cc s f i=0:=by cases f<;>simp [Cc,h]
theorem wh (s:ByteArray) (f i:Nat) (h:i<s.size):Cc s (f+1) i=dQ (Utf8.decode s i).1+Cc s f (i+(Utf8.decode s i).2):=by rw [Cc,if_pos h]
theorem mJ (s:ByteArray):∀ f i,Cc s f i<=100*f
  | 0,_=>by simp [Cc]
  | f+1,i=>by
    rw [Cc];split
    · have:=rC (Utf8.decode s i).1
      have:=mJ s f (i+(Utf8.decode s i).2);omega
    · omega
theorem uf (s:ByteArray):dD s<=100*s.size:=mJ s s.size 0
def sW (g:Nat->Nat):Nat->List ByteArray->List UInt8
  | _,[]=>[]
  | i,x::t=>(if i=0 then [] else List.replicate (g i) 32)++x.data.toList++sW g (i+1) t
def jB (g:Nat->Nat) (l:List ByteArray):ByteArray:=⟨(sW g 0 l).toArray⟩
theorem rD:∀ (l:List ByteArray) (i:Nat),0<i->Lib.joinTail [32] (l.map (·.data.toList))=sW (fun _=>1) i l
  | [],_,_=>rfl
  | y::t,i,h=>by
    have ih:=rD t (i+1) (by omega);rw [sW,if_neg (by omega),<- ih];simp [Lib.joinTail]
theorem zV (l:List ByteArray):(⟨(Lib.join (l.map (·.data.toList)) [32]).toArray⟩:ByteArray)=jB (fun _=>1) l:=by
  cases l with
  | nil=>rfl
  | cons x t=>
    unfold jB;rw [List.map_cons,Lib.join_cons,rD t 1 (by omega),sW];simp
theorem gX (s:ByteArray):∀ (f i fr:Nat) (acc:List ByteArray),(∀ x∈acc,x.size<=s.size)->∀ x∈(kY s f i fr acc).1,x.size<=s.size
  | 0,_,_,acc,h=>by simpa [kY] using h
  | f+1,i,fr,acc,h=>by
    have hx:∀ x∈(if fr<i then acc++[s.extract fr i] else acc),x.size<=s.size:=by
      intro x hx;split at hx
      · rcases List.mem_append.1 hx with hx | hx
        · exact h x hx
        · simp at hx;subst hx;simp [ByteArray.size_extract];omega
      · exact h x hx
    rw [kY];split
    · split
      · exact gX s f _ _ _ hx
      · exact gX s f _ _ _ h
    · exact h
theorem nV (s:ByteArray):∀ x∈jh s,x.size<=s.size:=by
  intro x hx;unfold jh EL at hx;split at hx
  · rcases List.mem_append.1 hx with hx | hx
    · exact gX s _ _ _ _ (by simp) x hx
    · simp at hx;subst hx;simp [ByteArray.size_extract]
  · exact gX s _ _ _ _ (by simp) x hx
theorem AJ (s:ByteArray):(jh s).length<=s.size+1:=by
  have:=pJ s s.size 0 0 [];unfold jh EL;split
  · simp at this ⊢;omega
  · simp at this ⊢;omega
theorem zX (g:Nat->Nat) (M S:Nat) (hg:∀ i,g i<=M):∀ (l:List ByteArray) (i:Nat),(∀ x∈l,x.size<=S)->(sW g i l).length<=l.length*(M+S)
  | [],_,_=>by simp [sW]
  | x::t,i,h=>by
    have ih:=zX g M S hg t (i+1) (fun y hy=>h y (List.mem_cons_of_mem _ hy));have hx:=h x List.mem_cons_self;have hx2:x.data.toList.length=x.size:=Array.length_toList;have hgi:=hg i;have:(if i=0 then ([]:List UInt8) else List.replicate (g i) 32).length<=M:=by split<;>simp;omega
    rw [sW];simp only [List.length_append,List.length_cons,hx2,Nat.succ_mul];omega
structure Dv where
  c:Int
  l:Int
  nx:Int
def l7 (n:Nat) (wd:Int) (T:Nat->Dv) (to:Nat) (wide:Int):Dv:=
  ⟨(T to).c+(if to<n/\wide<=wd then (wd-wide)*(wd-wide) else 0),(T to).l+1,to⟩
def je (x old:Dv):Bool:=decide (x.c<old.c)||(decide (x.c=old.c)&&decide (x.l<old.l))
def qh (n:Nat) (wd:Int) (T:Nat->Dv) (fr to:Nat) (wide:Int) (cur:Dv):Dv:=
  if to=fr+1\/je (l7 n wd T to wide) cur=true then l7 n wd T to wide else cur
def jD (ws:List Int) (sp wd:Int) (n:Nat) (T:Nat->Dv) (fr:Nat):Nat->Nat->Int->Dv->Dv
  | 0,_,_,cur=>cur
  | f+1,to,wide,cur=>
    if to=n then qh n wd T fr to wide cur
    else if wd<wide+(sp+ws.getD to 0) then qh n wd T fr to wide cur
    else jD ws sp wd n T fr f (to+1) (wide+(sp+ws.getD to 0)) (qh n wd T fr to wide cur)
theorem Aj (ws:List Int) (sp wd:Int) (n:Nat) (T:Nat->Dv) (fr f to:Nat) (wide:Int) (cur:Dv) (h:to=n) : jD ws sp wd n T fr (f+1) to wide cur=qh n wd T fr to wide cur:=by rw [jD,if_pos h]
theorem Ak (ws:List Int) (sp wd:Int) (n:Nat) (T:Nat->Dv) (fr f to:Nat) (wide:Int) (cur:Dv) (h:wd<wide+(sp+ws.getD to 0)) : jD ws sp wd n T fr (f+1) to wide cur=qh n wd T fr to wide cur:=by
  rw [jD];by_cases e:to=n
  · rw [if_pos e]
  · rw [if_neg e,if_pos h]
theorem Fz (ws:List Int) (sp wd:Int) (n:Nat) (T:Nat->Dv) (fr f to:Nat) (wide:Int) (cur:Dv) (h:to≠n) (h':¬ wd<wide+(sp+ws.getD to 0)) : jD ws sp wd n T fr (f+1) to wide cur=jD ws sp wd n T fr f (to+1) (wide+(sp+ws.getD to 0)) (qh n wd T fr to wide cur):=by rw [jD,if_neg h,if_neg h']
def upd (T:Nat->Dv) (j:Nat) (d:Dv):Nat->Dv:=fun i=>if i=j then d else T i
def tab (ws:List Int) (sp wd:Int) (n:Nat):Nat->Nat->Dv
  | 0=>fun _=>⟨0,0,0⟩
  | k+1=>upd (tab ws sp wd n k) (n-(k+1)) (jD ws sp wd n (tab ws sp wd n k) (n-(k+1)) (k+1) (n-k) (ws.getD (n-(k+1)) 0) (tab ws sp wd n k (n-(k+1))))
structure tZ (n k:Nat) (T:Nat->Dv):Prop where
  c0:∀ j,0<=(T j).c/\(T j).c<=k*1099511627776
  l0:∀ j,0<=(T j).l/\(T j).l<=k
  z:∀ j,¬ (n-k<=j/\j<n)->T j=⟨0,0,0⟩
  nx:∀ j,n-k<=j->j<n->(j:Int)<(T j).nx/\(T j).nx<=n
structure xC (n k fr:Nat) (d:Dv):Prop where
  c:0<=d.c/\d.c<=k*1099511627776
  l:0<=d.l/\d.l<=k
  nx:(fr:Int)<d.nx/\d.nx<=n
theorem GZ {x:Int} (h0:0<=x) (h:x<=1048576):0<=x*x/\x*x<=1099511627776:=by have h1:x*x<=1048576*1048576:=Int.mul_le_mul h h h0 (by omega);have h2:0<=x*x:=Int.mul_nonneg h0 h0;omega
theorem GK {n k:Nat} {T:Nat->Dv} (h:tZ n k T) {wd:Int} (hw1:wd<=1048576) {fr to:Nat} (ht:fr<to) (htn:to<=n) {wide:Int} (h0:0<=wide):xC n (k+1) fr (l7 n wd T to wide):=by
  have hc:=h.c0 to;have hl:=h.l0 to;refine ⟨?_,?_,?_⟩
  · unfold l7
    split
    · rename_i hh
      have:=GZ (x:=wd-wide) (by omega) (by omega);simp only;omega
    · simp only;omega
  · unfold l7;simp only;omega
  · unfold l7;simp only;omega
theorem G5 {n k:Nat} {T:Nat->Dv} (h:tZ n k T) {wd:Int} (hw1:wd<=1048576) {fr to:Nat} (ht:fr<to) (htn:to<=n) {wide:Int} (h0:0<=wide) {cur:Dv} (hc:to=fr+1\/xC n (k+1) fr cur) : xC n (k+1) fr (qh n wd T fr to wide cur):=by
  unfold qh;split
  · exact GK h hw1 ht htn h0
  · rcases hc with hc | hc
    · rename_i hh;exact absurd (.inl hc) hh
    · exact hc
theorem EM {n k:Nat} {T:Nat->Dv} (h:tZ n k T) {ws:List Int} {sp wd:Int} (hw1:wd<=1048576) (hs:0<=sp) (hws:∀ x∈ws,(0:Int)<=x) {fr:Nat} : ∀ (f to:Nat) (wide:Int) (cur:Dv),fr<to->to<=n->0<f->0<=wide->(to=fr+1\/xC n (k+1) fr cur)->xC n (k+1) fr (jD ws sp wd n T fr f to wide cur)
  | 0,_,_,_,_,_,hf,_,_=>absurd hf (by omega)
  | f+1,to,wide,cur,h1,h2,_,h4,h5=>by
    have hu:=G5 h hw1 h1 h2 h4 h5;have hd:0<=ws.getD to 0:=by
      rw [List.getD_eq_getElem?_getD];cases hx:ws[to]? with
      | none=>simp
      | some y=>exact hws y (X9 hx)
    rw [jD];split
    · exact hu
    · split
      · exact hu
      · cases f with
        | zero=>exact hu
        | succ f=>exact EM h hw1 hs hws (f+1) _ _ _ (by omega) (by omega) (by omega) (by omega) (.inr hu)
theorem rO (ws:List Int) (sp wd:Int) (n:Nat) (hw1:wd<=1048576) (hs:0<=sp) (hws:∀ x∈ws,(0:Int)<=x):∀ k,k<=n->tZ n k (tab ws sp wd n k)
  | 0,_=>⟨fun j=>by simp [tab],fun j=>by simp [tab],fun j _=>rfl,fun j h1 h2=>by omega⟩
  | k+1,hk=>by
    have ih:=rO ws sp wd n hw1 hs hws k (by omega);have hd:0<=ws.getD (n-(k+1)) 0:=by
      rw [List.getD_eq_getElem?_getD];cases hx:ws[n-(k+1)]? with
      | none=>simp
      | some y=>exact hws y (X9 hx)
    have he:=EM ih hw1 hs hws (fr:=n-(k+1)) (k+1) (n-k) (ws.getD (n-(k+1)) 0) (tab ws sp wd n k (n-(k+1))) (by omega) (by omega) (by omega) hd (.inl (by omega));rw [tab];generalize jD ws sp wd n (tab ws sp wd n k) (n-(k+1)) (k+1) (n-k) (ws.getD (n-(k+1)) 0) (tab ws sp wd n k (n-(k+1)))=d at *;refine ⟨fun j=>?_,fun j=>?_,fun j hj=>?_,fun j h1 h2=>?_⟩
    · unfold upd;have:=ih.c0 j;split
      · exact he.c
      · push_cast;omega
    · unfold upd;have:=ih.l0 j;split
      · exact he.l
      · push_cast;omega
    · unfold upd;rw [if_neg (by omega)];exact ih.z j (by omega)
    · unfold upd
      by_cases e:j=n-(k+1)
      · rw [if_pos e,e];exact he.nx
      · rw [if_neg e];exact ih.nx j (by omega) h2
def rM (n:Nat) (T:Nat->Dv):Nat->Nat->List Int
  | 0,_=>[]
  | f+1,i=>if i<n then (i:Int)::rM n T f (T i).nx.toNat else []
theorem xu (n:Nat) (T:Nat->Dv) (f i:Nat) (h:¬ i<n):rM n T f i=[]:=by cases f<;>simp [rM,h]
theorem qG (n:Nat) (T:Nat->Dv) (f i:Nat) (h:i<n):rM n T (f+1) i=(i:Int)::rM n T f (T i).nx.toNat:=by rw [rM,if_pos h]
theorem pK (n:Nat) (T:Nat->Dv):∀ f i,(rM n T f i).length<=f
  | 0,_=>by simp [rM]
  | f+1,i=>by
    rw [rM];split
    · simp;exact pK n T f _
    · simp
def P7 (ws:List Int) (sp wd:Int):Nat->Dv:=tab ws sp wd ws.length ws.length
def tT (ws:List Int) (sp wd:Int):List Int:=rM ws.length (P7 ws sp wd) ws.length 0
def xg (ws:List Int) (sp wd:Int):Int:=(P7 ws sp wd 0).c
theorem lY (n:Nat) (T:Nat->Dv) (hT:∀ j,j<n->(j:Int)<(T j).nx):∀ (f i:Nat) (x:Int),x∈rM n T f i->(i:Int)<=x/\x<n
  | 0,_,_,h=>by simp [rM] at h
  | f+1,i,x,h=>by
    rw [rM] at h;split at h
    · rename_i hi
      have:=hT i hi;rcases List.mem_cons.1 h with rfl | h
      · omega
      · have ih:=lY n T hT f _ x h
        omega
    · simp at h
theorem jG (n:Nat) (T:Nat->Dv) (hT:∀ j,j<n->(j:Int)<(T j).nx):∀ (f i:Nat) (k:Nat) (x y:Int),(rM n T f i)[k]?=some x->(rM n T f i)[k+1]?=some y->x<y
  | 0,_,_,_,_,h,_=>by simp [rM] at h
  | f+1,i,k,x,y,h,h'=>by
    rw [rM] at h h';split at h
    · rename_i hi
      rw [if_pos hi] at h';have hn:=hT i hi;cases k with
      | zero=>
        simp at h h';subst h;have:=lY n T hT f _ y (X9 h');omega
      | succ k=>
        simp at h h';exact jG n T hT f _ k x y h h'
    · simp at h
def bO (l:List ByteArray):List Int:=l.map fun x=>(dD x:Int)
theorem pF (l:List ByteArray):(bO l).length=l.length:=by simp [bO]
def qM (l:List ByteArray) (F:List Int) (i:Nat):Nat:=if i+1<F.length then (F.getD (i+1) 0).toNat else l.length
def qN (F:List Int) (i:Nat):Nat:=(F.getD i 0).toNat
def jM (l:List ByteArray) (F:List Int) (i:Nat):ByteArray:=jB (fun _=>1) ((l.take (qM l F i)).drop (qN F i))
def xQ (l:List ByteArray) (F:List Int):List ByteArray:=(List.range F.length).map (jM l F)
def kW (l:List ByteArray) (F:List Int) (k:Nat):List ByteArray:=(List.range k).map (jM l F)
theorem yY (l:List ByteArray) (F:List Int) (k:Nat):kW l F (k+1)=kW l F k++[jM l F k]:=by unfold kW;rw [List.range_succ,List.map_append];rfl
theorem Bv (l:List ByteArray) (F:List Int) (k:Nat):(kW l F k).length=k:=by simp [kW]
structure RL (l:List ByteArray) (F:List Int):Prop where
  len:F.length<=l.length
  ge:∀ i,i<F.length->0<=F.getD i 0/\F.getD i 0<l.length
  inc:∀ i,i+1<F.length->F.getD i 0<F.getD (i+1) 0
  z:0<l.length->F.getD 0 1=0
theorem RL.lt {l:List ByteArray} {F:List Int} (h:RL l F) (i:Nat) (hi:i<F.length):qN F i<qM l F i/\qM l F i<=l.length:=by
  have h1:=h.ge i hi;unfold qN qM;split
  · rename_i h2
    have h3:=h.ge (i+1) h2;have h4:=h.inc i h2;omega
  · omega
theorem Dl (l:List ByteArray) (sp wd:Int) (hs:0<=sp) (hd:wd<=1048576):RL l (tT (bO l) sp wd):=by
  have hws:∀ x∈bO l,(0:Int)<=x:=by intro x hx;simp [bO] at hx;obtain ⟨a,_,rfl⟩:=hx;omega
  have hT:=rO (bO l) sp wd (bO l).length hd hs hws (bO l).length (XU _);have hnx:∀ j,j<(bO l).length->(j:Int)<(P7 (bO l) sp wd j).nx:=fun j hj=>(hT.nx j (by omega) hj).1
  have hl:=pF l;have hget:∀ i,i<(tT (bO l) sp wd).length->∃ x,(tT (bO l) sp wd)[i]?=some x/\(tT (bO l) sp wd).getD i 0=x:=fun i hi=>by
    refine ⟨_,List.getElem?_eq_getElem hi,?_⟩;rw [List.getD_eq_getElem?_getD,List.getElem?_eq_getElem hi];rfl
  refine ⟨?_,?_,?_,?_⟩
  · rw [<- hl];exact pK _ _ _ _
  · intro i hi
    obtain ⟨x,hx,e⟩:=hget i hi;rw [e];have:=lY _ _ hnx _ _ x (X9 hx);omega
  · intro i hi
    obtain ⟨x,hx,e⟩:=hget i (by omega);obtain ⟨y,hy,e'⟩:=hget (i+1) hi;rw [e,e'];exact jG _ _ hnx _ _ i x y hx hy
  · intro h0
    unfold tT;obtain ⟨m,hm⟩:∃ m,(bO l).length=m+1:=⟨(bO l).length-1,by omega⟩;have:=qG (bO l).length (P7 (bO l) sp wd) m 0 (by omega);rw [<- hm] at this;rw [this];rfl
theorem qL (l:List ByteArray) (S:Nat) (h:∀ x∈l,x.size<=S) (a b:Nat):(jB (fun _=>1) ((l.take a).drop b)).size<=l.length*(1+S):=by
  have h1:=zX (fun _=>1) 1 S (fun _=>XU _) ((l.take a).drop b) 0 (fun x hx=>h x (List.mem_of_mem_take (List.mem_of_mem_drop hx)));have h2:(jB (fun _=>1) ((l.take a).drop b)).size=(sW (fun _=>1) 0 ((l.take a).drop b)).length:=by simp [jB,ByteArray.size]
  rw [h2];exact Nat.le_trans h1 (Nat.mul_le_mul_right _ (by simp;omega))
end Go.Proofs.YtnmldmofggkoeaaGreatDoor

