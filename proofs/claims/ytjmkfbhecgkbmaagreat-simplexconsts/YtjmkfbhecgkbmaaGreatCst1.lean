/-
  Part 1 of 9 of a proof.
-/
import Derived.Orders
import Derived.Below
import Derived.Laws.AppendOwn
import Derived.Laws.MakeOwn
import Derived.Laws.CopyRow
import Derived.Laws.Rows
import Derived.Laws.Cells
import Derived.Tactics
import Derived.Laws.BitsLemmas
set_option linter.unusedVariables false
set_option linter.unusedSimpArgs false
set_option maxRecDepth 100000

namespace Go.Proofs.YtjmkfbhecgkbmaaGreat.Vm
open Go
inductive AV where
 | any
 | und
 | int (k:IntKind) (n:Int)
 | bool (b:Bool)
 | str (s:ByteArray)
 | nils
 | sl (rows:List (List AV))
 | ia (row:List AV) (off:Nat)
 | sref (i off n:Nat)
 | ptr (i j off:Nat)
 | nilp
 | agg (cells:List AV)
 | tup (l:List AV)
 | fn (f:Fn) (first captured:List AV)
 | nilfn
 | ifc (t:TypeId) (v:AV)
 | nilif
 | gl (g:Nat)
 | mp (i:Nat)
 | nilmp
 | it (i:Nat)
 | md (clock:Nat) (births:List Nat) (rows:List (List AV))
 deriving Inhabited
inductive Place where
 | nil
 | blk (b s cap len:Nat)
 | mapb (b:Nat)
abbrev Pl:=Nat→Option Place
def noPl:Pl:=fun _=>none
def Place.block:Place→Option Nat
 | .nil=>none
 | .blk b _ _ _=>some b
 | .mapb b=>some b
structure Births (clock:Nat) (births:List Nat):Prop where
 nodup:births.Nodup
 lt:∀ x∈births,x<clock
def entRows (ents:Array MapEntry):List (List Value):=ents.toList.map fun e=>[e.key,e.val]
def CellsAt (w:World) (b o:Nat) (vs:List Value):Prop:=∀ (j:Nat) (u:Value),vs[j]?=some u→w.cell? ⟨b,o+j,none⟩=some u
mutual
def Rp (w:World) (A:Nat→Prop):Pl→AV→Value→Prop
 | _,.any,_=>True
 | _,.und,v=>v=undef
 | _,.int k n,v=>v = .int k n
 | _,.bool b,v=>v = .bool b
 | _,.str s,v=>v = .string s
 | _,.nils,v=>v = .slice none 0 0
 | _,.sl rows,v=>∃ ad cap,v = .slice ad rows.length cap∧rows.length≤cap∧cap≤maxLen ∧
   (rows=[]∨∃ b o vss,ad=some ⟨b,o,none⟩∧¬ A b∧b<w.heap.size∧CellsAt w b o vss.flatten∧RpR w A noPl rows vss)
 | _,.ia row off,v=>∃ b o vs,v = .pointer (some ⟨b,o+off,none⟩)∧¬ A b∧b<w.heap.size∧CellsAt w b o vs∧Rps w A noPl row vs
 | ρ,.sref i off n,v=>(ρ i=some .nil∧off=0∧n=0∧v = .slice none 0 0) ∨
   (∃ b s cap len x,ρ i=some (.blk b s cap len)∧off+n≤len∧v = .slice (some ⟨b,x,none⟩) n (cap-off)∧(off<cap∨off=0→x=off*s))
 | ρ,.ptr i j off,v=>∃ b s cap len,ρ i=some (.blk b s cap len)∧v = .pointer (some ⟨b,j*s+off,none⟩)
 | _,.nilp,v=>v = .pointer none
 | ρ,.agg cs,v=>∃ vs:List Value,v = .agg vs.toArray∧Rps w A ρ cs vs
 | ρ,.tup cs,v=>∃ vs:List Value,v = .tuple vs.toArray∧Rps w A ρ cs vs
 | ρ,.fn f fs cs,v=>∃ us vs:List Value,v = .func f us.toArray vs.toArray∧Rps w A ρ fs us∧Rps w A ρ cs vs
 | _,.nilfn,v=>v = .nilFunc
 | ρ,.ifc t x,v=>∃ y,v = .iface t y∧Rp w A ρ x y
 | _,.nilif,v=>v = .nilIface
 | _,.gl g,v=>v = .pointer (some ⟨g,0,none⟩)
 | ρ,.mp i,v=>∃ b,ρ i=some (.mapb b)∧v = .map (some b)
 | _,.nilmp,v=>v = .map none
 | ρ,.it i,v=>∃ b,ρ i=some (.mapb b)∧v = .pointer (some ⟨b,0,none⟩)
 | _,.md clock births rows,v=>∃ b ents,v = .map (some b)∧¬ A b∧b<w.heap.size∧w.heap[b]?=some (.map ents clock)∧ents.toList.map (·.born)=births∧Births clock births∧RpR w A noPl rows (entRows ents)
def Rps (w:World) (A:Nat→Prop):Pl→List AV→List Value→Prop
 | _,[],vs=>vs=[]
 | ρ,x::xs,vs=>∃ v us,vs=v::us∧Rp w A ρ x v∧Rps w A ρ xs us
def RpR (w:World) (A:Nat→Prop):Pl→List (List AV)→List (List Value)→Prop
 | _,[],vss=>vss=[]
 | ρ,r::rs,vss=>∃ vs uss,vss=vs::uss∧Rps w A ρ r vs∧RpR w A ρ rs uss
end
structure Later (w:World) (A:Nat→Prop) (ρ:Pl) (w':World) (A':Nat→Prop) (ρ':Pl):Prop where
 size:w.heap.size≤w'.heap.size
 av:∀ k,k<w.heap.size→A' k→A k
 mem:∀ k,k<w.heap.size→¬ A k→w'.heap[k]?=w.heap[k]?
 pl:∀ i p,ρ i=some p→ρ' i=some p
theorem CellsAt.later {w w':World} {b o:Nat} {vs:List Value} (h:CellsAt w b o vs) (hb:w'.heap[b]?=w.heap[b]?):CellsAt w' b o vs :=
 fun j u hj=>(World.cell?_of_block (w:=w) (a:=⟨b,o+j,none⟩) hb).trans (h j u hj)
theorem Later.none {w:World} {A:Nat→Prop} {ρ:Pl} {w':World} {A':Nat→Prop} {ρ':Pl} (h:Later w A ρ w' A' ρ'):Later w A noPl w' A' noPl :=
 ⟨h.size,h.av,h.mem,fun _ _ h=>by cases h⟩
mutual
theorem Rp.later {w w':World} {A A':Nat→Prop}:∀ {ρ ρ':Pl} (x:AV) {v:Value},Later w A ρ w' A' ρ'→Rp w A ρ x v→Rp w' A' ρ' x v
 | _,_,.any,_,_,h=>by simp only [Rp]
 | _,_,.und,_,_,h=>by simpa only [Rp] using h
 | _,_,.int _ _,_,_,h=>by simpa only [Rp] using h
 | _,_,.bool _,_,_,h=>by simpa only [Rp] using h
 | _,_,.str _,_,_,h=>by simpa only [Rp] using h
 | _,_,.nils,_,_,h=>by simpa only [Rp] using h
 | _,_,.sl rows,v,hl,h=>by
  simp only [Rp] at h ⊢
  obtain ⟨ad,cap,h1,h2,h3,h4⟩:=h
  refine ⟨ad,cap,h1,h2,h3,?_⟩
  rcases h4 with h4 | ⟨b,o,vss,h5,h6,h7,h8,h9⟩
  ·exact .inl h4
  ·exact .inr ⟨b,o,vss,h5,fun h=>h6 (hl.av b h7 h),Nat.lt_of_lt_of_le h7 hl.size,h8.later (hl.mem b h7 h6),RpR.later rows hl.none h9⟩
 | _,_,.ia row off,v,hl,h=>by
  simp only [Rp] at h ⊢
  obtain ⟨b,o,vs,h5,h6,h7,h8,h9⟩:=h
  exact ⟨b,o,vs,h5,fun h=>h6 (hl.av b h7 h),Nat.lt_of_lt_of_le h7 hl.size,h8.later (hl.mem b h7 h6),Rps.later row hl.none h9⟩
 | _,_,.sref i off n,v,hl,h=>by
  simp only [Rp] at h ⊢
  rcases h with ⟨h1,h2⟩ | ⟨b,s,cap,len,x,h1,h2⟩
  ·exact .inl ⟨hl.pl _ _ h1,h2⟩
  ·exact .inr ⟨b,s,cap,len,x,hl.pl _ _ h1,h2⟩
 | _,_,.ptr i j off,v,hl,h=>by
  simp only [Rp] at h ⊢
  obtain ⟨b,s,cap,len,h1,h2⟩:=h
  exact ⟨b,s,cap,len,hl.pl _ _ h1,h2⟩
 | _,_,.nilp,_,_,h=>by simpa only [Rp] using h
 | _,_,.agg cs,v,hl,h=>by
  simp only [Rp] at h ⊢
  obtain ⟨vs,h1,h2⟩:=h
  exact ⟨vs,h1,Rps.later cs hl h2⟩
 | _,_,.tup cs,v,hl,h=>by
  simp only [Rp] at h ⊢
  obtain ⟨vs,h1,h2⟩:=h
  exact ⟨vs,h1,Rps.later cs hl h2⟩
 | _,_,.fn f fs cs,v,hl,h=>by
  simp only [Rp] at h ⊢
  obtain ⟨us,vs,h1,h2,h3⟩:=h
  exact ⟨us,vs,h1,Rps.later fs hl h2,Rps.later cs hl h3⟩
 | _,_,.nilfn,_,_,h=>by simpa only [Rp] using h
 | _,_,.ifc t x,v,hl,h=>by
  simp only [Rp] at h ⊢
  obtain ⟨y,h1,h2⟩:=h
  exact ⟨y,h1,Rp.later x hl h2⟩
 | _,_,.nilif,_,_,h=>by simpa only [Rp] using h
 | _,_,.gl _,_,_,h=>by simpa only [Rp] using h
 | _,_,.mp i,v,hl,h=>by
  simp only [Rp] at h ⊢
  obtain ⟨b,h1,h2⟩:=h
  exact ⟨b,hl.pl _ _ h1,h2⟩
 | _,_,.nilmp,_,_,h=>by simpa only [Rp] using h
 | _,_,.it i,v,hl,h=>by
  simp only [Rp] at h ⊢
  obtain ⟨b,h1,h2⟩:=h
  exact ⟨b,hl.pl _ _ h1,h2⟩
 | _,_,.md clock births rows,v,hl,h=>by
  simp only [Rp] at h ⊢
  obtain ⟨b,ents,h1,h2,h3,h4,h5,h6,h7⟩:=h
  exact ⟨b,ents,h1,fun h=>h2 (hl.av b h3 h),Nat.lt_of_lt_of_le h3 hl.size,(hl.mem b h3 h2).trans h4,h5,h6,RpR.later rows hl.none h7⟩
theorem Rps.later {w w':World} {A A':Nat→Prop}:∀ {ρ ρ':Pl} (l:List AV) {vs:List Value},Later w A ρ w' A' ρ'→Rps w A ρ l vs→Rps w' A' ρ' l vs
 | _,_,[],_,_,h=>by simpa only [Rps] using h
 | _,_,x::xs,vs,hl,h=>by
  simp only [Rps] at h ⊢
  obtain ⟨v,us,h1,h2,h3⟩:=h
  exact ⟨v,us,h1,Rp.later x hl h2,Rps.later xs hl h3⟩
theorem RpR.later {w w':World} {A A':Nat→Prop}:∀ {ρ ρ':Pl} (l:List (List AV)) {vs:List (List Value)},Later w A ρ w' A' ρ'→RpR w A ρ l vs→RpR w' A' ρ' l vs
 | _,_,[],_,_,h=>by simpa only [RpR] using h
 | _,_,x::xs,vs,hl,h=>by
  simp only [RpR] at h ⊢
  obtain ⟨v,us,h1,h2,h3⟩:=h
  exact ⟨v,us,h1,Rps.later x hl h2,RpR.later xs hl h3⟩
end
theorem Rps.length {w:World} {A:Nat→Prop}:∀ {ρ:Pl} {l:List AV} {vs:List Value},Rps w A ρ l vs→vs.length=l.length
 | _,[],vs,h=>by simp only [Rps] at h;simp [h]
 | _,x::xs,vs,h=>by
  simp only [Rps] at h
  obtain ⟨v,us,rfl,_,h3⟩:=h
  simp [h3.length]
theorem Rps.get {w:World} {A:Nat→Prop}:∀ {ρ:Pl} {l:List AV} {vs:List Value},Rps w A ρ l vs→∀ {i:Nat} {x:AV},l[i]?=some x→∃ v,vs[i]?=some v∧Rp w A ρ x v
 | _,[],vs,h,i,x,hi=>by simp at hi
 | _,x::xs,vs,h,i,y,hi=>by
  simp only [Rps] at h
  obtain ⟨v,us,rfl,h2,h3⟩:=h
  cases i with
  | zero=>simp at hi;subst hi;exact ⟨v,rfl,h2⟩
  | succ i=>simp at hi;simpa using h3.get hi
theorem Rps.mk {w:World} {A:Nat→Prop} {ρ:Pl}:∀ {l:List AV} {vs:List Value},vs.length=l.length→(∀ (i:Nat) (x:AV) (v:Value),l[i]?=some x→vs[i]?=some v→Rp w A ρ x v)→Rps w A ρ l vs
 | [],vs,hl,h=>by simp only [Rps];exact List.eq_nil_of_length_eq_zero (by simpa using hl)
 | x::xs,[],hl,h=>by simp at hl
 | x::xs,v::vs,hl,h=>by
  simp only [Rps]
  exact ⟨v,vs,rfl,h 0 x v rfl rfl,Rps.mk (by simpa using hl) fun i y u hy hu=>h (i+1) y u (by simpa using hy) (by simpa using hu)⟩
theorem Rps.append {w:World} {A:Nat→Prop} {ρ:Pl}:∀ {l m:List AV} {vs us:List Value},Rps w A ρ l vs→Rps w A ρ m us→Rps w A ρ (l++m) (vs++us)
 | [],m,vs,us,h,h'=>by simp only [Rps] at h;simpa [h] using h'
 | x::xs,m,vs,us,h,h'=>by
  simp only [Rps] at h
  obtain ⟨v,ts,rfl,h2,h3⟩:=h
  simp only [List.cons_append,Rps]
  exact ⟨v,ts++us,rfl,h2,h3.append h'⟩
theorem Rps.of_append {w:World} {A:Nat→Prop} {ρ:Pl}:∀ {l m:List AV} {vs:List Value},Rps w A ρ (l++m) vs→∃ us ts,vs=us++ts∧Rps w A ρ l us∧Rps w A ρ m ts
 | [],m,vs,h=>⟨[],vs,rfl,by simp only [Rps],h⟩
 | x::xs,m,vs,h=>by
  simp only [List.cons_append,Rps] at h
  obtain ⟨v,ts,rfl,h2,h3⟩:=h
  obtain ⟨us,rs,rfl,h4,h5⟩:=h3.of_append
  exact ⟨v::us,rs,rfl,by simp only [Rps];exact ⟨v,us,rfl,h2,h4⟩,h5⟩
theorem Rps.take {w:World} {A:Nat→Prop} {ρ:Pl} {l:List AV} {vs:List Value} (h:Rps w A ρ l vs) (n:Nat):Rps w A ρ (l.take n) (vs.take n):=by
 refine Rps.mk (by simp [h.length]) fun i x v hx hv=>?_
 rw [List.getElem?_take] at hx hv
 split at hx
 ·rename_i hi;rw [if_pos hi] at hv
  obtain ⟨u,hu,hr⟩:=h.get hx
  rw [hu] at hv;cases hv;exact hr
 ·cases hx
theorem Rps.drop {w:World} {A:Nat→Prop} {ρ:Pl} {l:List AV} {vs:List Value} (h:Rps w A ρ l vs) (n:Nat):Rps w A ρ (l.drop n) (vs.drop n):=by
 refine Rps.mk (by simp [h.length]) fun i x v hx hv=>?_
 rw [List.getElem?_drop] at hx hv
 obtain ⟨u,hu,hr⟩:=h.get hx
 rw [hu] at hv;cases hv;exact hr
theorem Rps.set {w:World} {A:Nat→Prop} {ρ:Pl} {l:List AV} {vs:List Value} (h:Rps w A ρ l vs) (n:Nat) {x:AV} {v:Value} (hx:Rp w A ρ x v):Rps w A ρ (l.set n x) (vs.set n v):=by
 refine Rps.mk (by simp [h.length]) fun i y u hy hu=>?_
 rw [List.getElem?_set] at hy hu
 split at hy
 ·rename_i hi;subst hi
  rw [if_pos rfl] at hu
  split at hy
  ·rw [if_pos (by rw [h.length];assumption)] at hu
   cases hy;cases hu;exact hx
  ·cases hy
 ·rename_i hi
  rw [if_neg hi] at hu
  obtain ⟨t,ht,hr⟩:=h.get hy
  rw [ht] at hu;cases hu;exact hr
theorem RpR.length {w:World} {A:Nat→Prop}:∀ {ρ:Pl} {l:List (List AV)} {vs:List (List Value)},RpR w A ρ l vs→vs.length=l.length
 | _,[],vs,h=>by simp only [RpR] at h;simp [h]
 | _,x::xs,vs,h=>by
  simp only [RpR] at h
  obtain ⟨v,us,rfl,_,h3⟩:=h
  simp [h3.length]
theorem RpR.get {w:World} {A:Nat→Prop}:∀ {ρ:Pl} {l:List (List AV)} {vs:List (List Value)},RpR w A ρ l vs→∀ {i:Nat} {x:List AV},l[i]?=some x→∃ v,vs[i]?=some v∧Rps w A ρ x v
 | _,[],vs,h,i,x,hi=>by simp at hi
 | _,x::xs,vs,h,i,y,hi=>by
  simp only [RpR] at h
  obtain ⟨v,us,rfl,h2,h3⟩:=h
  cases i with
  | zero=>simp at hi;subst hi;exact ⟨v,rfl,h2⟩
  | succ i=>simp at hi;simpa using h3.get hi
theorem RpR.mk {w:World} {A:Nat→Prop} {ρ:Pl}:∀ {l:List (List AV)} {vs:List (List Value)},vs.length=l.length→(∀ (i:Nat) (x:List AV) (v:List Value),l[i]?=some x→vs[i]?=some v→Rps w A ρ x v)→RpR w A ρ l vs
 | [],vs,hl,h=>by simp only [RpR];exact List.eq_nil_of_length_eq_zero (by simpa using hl)
 | x::xs,[],hl,h=>by simp at hl
 | x::xs,v::vs,hl,h=>by
  simp only [RpR]
  exact ⟨v,vs,rfl,h 0 x v rfl rfl,RpR.mk (by simpa using hl) fun i y u hy hu=>h (i+1) y u (by simpa using hy) (by simpa using hu)⟩
theorem RpR.append {w:World} {A:Nat→Prop} {ρ:Pl}:∀ {l m:List (List AV)} {vs us:List (List Value)},RpR w A ρ l vs→RpR w A ρ m us→RpR w A ρ (l++m) (vs++us)
 | [],m,vs,us,h,h'=>by simp only [RpR] at h;simpa [h] using h'
 | x::xs,m,vs,us,h,h'=>by
  simp only [RpR] at h
  obtain ⟨v,ts,rfl,h2,h3⟩:=h
  simp only [List.cons_append,RpR]
  exact ⟨v,ts++us,rfl,h2,h3.append h'⟩
theorem RpR.take {w:World} {A:Nat→Prop} {ρ:Pl} {l:List (List AV)} {vs:List (List Value)} (h:RpR w A ρ l vs) (n:Nat):RpR w A ρ (l.take n) (vs.take n):=by
 refine RpR.mk (by simp [h.length]) fun i x v hx hv=>?_
 rw [List.getElem?_take] at hx hv
 split at hx
 ·rename_i hi;rw [if_pos hi] at hv
  obtain ⟨u,hu,hr⟩:=h.get hx
  rw [hu] at hv;cases hv;exact hr
 ·cases hx
theorem RpR.drop {w:World} {A:Nat→Prop} {ρ:Pl} {l:List (List AV)} {vs:List (List Value)} (h:RpR w A ρ l vs) (n:Nat):RpR w A ρ (l.drop n) (vs.drop n):=by
 refine RpR.mk (by simp [h.length]) fun i x v hx hv=>?_
 rw [List.getElem?_drop] at hx hv
 obtain ⟨u,hu,hr⟩:=h.get hx
 rw [hu] at hv;cases hv;exact hr
theorem RpR.set {w:World} {A:Nat→Prop} {ρ:Pl} {l:List (List AV)} {vs:List (List Value)} (h:RpR w A ρ l vs) (n:Nat) {x:List AV} {v:List Value} (hx:Rps w A ρ x v):RpR w A ρ (l.set n x) (vs.set n v):=by
 refine RpR.mk (by simp [h.length]) fun i y u hy hu=>?_
 rw [List.getElem?_set] at hy hu
 split at hy
 ·rename_i hi;subst hi
  rw [if_pos rfl] at hu
  split at hy
  ·rw [if_pos (by rw [h.length];assumption)] at hu
   cases hy;cases hu;exact hx
  ·cases hy
 ·rename_i hi
  rw [if_neg hi] at hu
  obtain ⟨t,ht,hr⟩:=h.get hy
  rw [ht] at hu;cases hu;exact hr
def AllLen (s:Nat) (rows:List (List AV)):Prop:=∀ r∈rows,r.length=s
theorem RpR.lens {w:World} {A:Nat→Prop} {ρ:Pl} {s:Nat} {l:List (List AV)} {vs:List (List Value)} (h:RpR w A ρ l vs) (hs:AllLen s l):∀ r∈vs,r.length=s:=by
 intro r hr
 obtain ⟨i,hi,rfl⟩:=List.mem_iff_getElem.1 hr
 have hi':i<l.length:=by rw [← h.length];exact hi
 obtain ⟨v,hv,hrr⟩:=h.get (List.getElem?_eq_getElem hi')
 rw [List.getElem?_eq_getElem hi] at hv
 cases hv
 rw [hrr.length]
 exact hs _ (List.getElem_mem hi')
theorem flatten_length {α:Type} {s:Nat}:∀ {l:List (List α)},(∀ r∈l,r.length=s)→l.flatten.length=l.length*s
 | [],_=>by simp
 | r::l,h=>by
  rw [List.flatten_cons,List.length_append,flatten_length fun r' h'=>h r' (List.mem_cons_of_mem _ h'),h r List.mem_cons_self,List.length_cons,Nat.add_mul,Nat.one_mul,Nat.add_comm]
theorem flatten_at {α:Type} {s:Nat}:∀ {l:List (List α)} {i j:Nat} {r:List α} {x:α},(∀ r∈l,r.length=s)→l[i]?=some r→r[j]?=some x→l.flatten[i*s+j]?=some x
 | [],i,j,r,x,h,hi,hj=>by simp at hi
 | q::l,0,j,r,x,h,hi,hj=>by
  simp at hi
  subst hi
  obtain ⟨hlt,_⟩:=List.getElem?_eq_some_iff.1 hj
  rw [List.flatten_cons,Nat.zero_mul,Nat.zero_add,List.getElem?_append_left hlt]
  exact hj
 | q::l,i+1,j,r,x,h,hi,hj=>by
  have hq:=h q List.mem_cons_self
  rw [List.flatten_cons,List.getElem?_append_right (by rw [hq,Nat.add_mul];omega),hq,show (i+1)*s+j-s=i*s+j by rw [Nat.add_mul,Nat.one_mul];omega]
  exact flatten_at (fun r' h'=>h r' (List.mem_cons_of_mem _ h')) (by simpa using hi) hj
inductive Ob where
 | dead
 | arr (T:TypeId) (k:Nat) (p:Bool) (rows:List (List AV))
 | map (clock:Nat) (births:List Nat) (rows:List (List AV))
 | iter (m:AV) (since:Nat) (seen:List Nat) (stepped:Nat)
 deriving Inhabited
structure St where
 env:List AV
 hp:List Ob
structure Fr where
 base:Nat
 w0:World
 F:Nat→Prop
 M:Nat→Prop
 pins:List Nat
 ρ0:Pl
 dis:∀ k,F k→¬ M k
def Av (F:Nat→Prop) (ρ:Pl):Nat→Prop:=fun k=>F k∨∃ i p,ρ i=some p∧p.block=some k
structure Keep (fr:Fr) (w:World):Prop where
 os:w.os=fr.w0.os
 tape:w.tape=fr.w0.tape
 output:w.output=fr.w0.output
 size:fr.w0.heap.size≤w.heap.size
 block:∀ k,k<fr.base→¬ fr.M k→w.heap[k]?=fr.w0.heap[k]?
def Holds (w:World) (A:Nat→Prop) (ρ:Pl) (T:TypeId) (rows:List (List AV)) (b s cap:Nat):Prop :=
 ∃ vss rest,w.heap[b]?=some (.cells (vss.flatten++rest).toArray T (0,0))∧RpR w A ρ rows vss∧AllLen s rows∧(vss.flatten++rest).length=cap*s∧rows.length≤cap∧cap≤maxLen
def Pf (p:Bool) (ρ:Pl):Pl:=if p then noPl else ρ
def HRo (w:World) (A:Nat→Prop) (ρ:Pl):Ob→Option Place→Prop
 | .dead,p=>p=none
 | .arr _ _ _ rows,some .nil=>rows=[]
 | .arr T k p rows,some (.blk b s cap len)=>s=k∧rows.length=len∧Holds w A (Pf p ρ) T rows b s cap
 | .arr _ _ _ _,_=>False
 | .map clock births rows,some (.mapb b)=>∃ ents,w.heap[b]?=some (.map ents clock)∧ents.toList.map (·.born)=births∧Births clock births∧RpR w A noPl rows (entRows ents)
 | .map _ _ _,_=>False
 | .iter m since seen stepped,some (.mapb r)=>∃ x,w.heap[r]?=some (.mapIter x since seen.toArray stepped)∧Rp w A ρ m (.map x)
 | .iter _ _ _ _,_=>False
structure Rep (fr:Fr) (ρ:Pl) (s:St) (a:Act) (w:World):Prop where
 keep:Keep fr w
 base:fr.base≤w.heap.size
 defers:a.defers=[]
 heap:∀ i,HRo w (Av fr.F ρ) ρ (s.hp.getD i .dead) (ρ i)
 inj:∀ i j p q b,ρ i=some p→ρ j=some q→p.block=some b→q.block=some b→i=j
 mine:∀ i p b,ρ i=some p→p.block=some b→fr.base≤b∨fr.M b
 fF:∀ k,fr.F k→k<fr.base
 pin:∀ i,i∈fr.pins→ρ i=fr.ρ0 i∧ρ i≠none
 env:Rps w (Av fr.F ρ) ρ s.env a.tmps.toList
theorem Later.pf {w:World} {A:Nat→Prop} {ρ:Pl} {w':World} {A':Nat→Prop} {ρ':Pl} (h:Later w A ρ w' A' ρ') (p:Bool):Later w A (Pf p ρ) w' A' (Pf p ρ'):=by
 cases p
 ·exact h
 ·exact h.none
theorem HRo.later {w w':World} {A A':Nat→Prop} {ρ ρ':Pl} (hl:Later w A ρ w' A' ρ') {o:Ob} {p:Option Place} (h:HRo w A ρ o p)
  (hb:∀ q b,p=some q→q.block=some b→w'.heap[b]?=w.heap[b]?):HRo w' A' ρ' o p:=by
 cases o with
 | dead=>exact h
 | arr T k0 pf rows =>
  match p,h,hb with
  | some .nil,h,_=>exact h
  | some (.blk b s cap len),h,hb =>
   obtain ⟨hk0,h0,vss,rest,h1,h2,h3⟩:=h
   exact ⟨hk0,h0,vss,rest,(hb _ b rfl rfl).trans h1,h2.later _ (hl.pf pf),h3⟩
  | some (.mapb b),h,_=>exact h
  | none,h,_=>exact h
 | map clock births rows =>
  match p,h,hb with
  | some (.mapb b),h,hb =>
   obtain ⟨ents,h1,h2,h3,h4⟩:=h
   exact ⟨ents,(hb _ b rfl rfl).trans h1,h2,h3,h4.later _ hl.none⟩
  | some .nil,h,_=>exact h
  | some (.blk _ _ _ _),h,_=>exact h
  | none,h,_=>exact h
 | iter m since seen stepped =>
  match p,h,hb with
  | some (.mapb b),h,hb =>
   obtain ⟨x,h1,h2⟩:=h
   exact ⟨x,(hb _ b rfl rfl).trans h1,h2.later m hl⟩
  | some .nil,h,_=>exact h
  | some (.blk _ _ _ _),h,_=>exact h
  | none,h,_=>exact h
theorem HRo.lt {w:World} {A:Nat→Prop} {ρ:Pl} {o:Ob} {q:Place} {b:Nat} (h:HRo w A ρ o (some q)) (hb:q.block=some b):b<w.heap.size:=by
 cases o with
 | dead=>cases h
 | arr T k0 pf rows =>
  match q,h,hb with
  | .nil,h,hb=>simp [Place.block] at hb
  | .blk b' s cap len,h,hb =>
   obtain ⟨_,_,vss,rest,h1,_⟩:=h
   simp [Place.block] at hb
   subst hb
   exact (Array.getElem?_eq_some_iff.1 h1).1
  | .mapb b',h,hb=>cases h
 | map clock births rows =>
  match q,h,hb with
  | .nil,h,hb=>cases h
  | .blk _ _ _ _,h,hb=>cases h
  | .mapb b',h,hb =>
   obtain ⟨ents,h1,_⟩:=h
   simp [Place.block] at hb
   subst hb
   exact (Array.getElem?_eq_some_iff.1 h1).1
 | iter m since seen stepped =>
  match q,h,hb with
  | .nil,h,hb=>cases h
  | .blk _ _ _ _,h,hb=>cases h
  | .mapb b',h,hb =>
   obtain ⟨x,h1,_⟩:=h
   simp [Place.block] at hb
   subst hb
   exact (Array.getElem?_eq_some_iff.1 h1).1
theorem Rep.lt {fr:Fr} {ρ:Pl} {s:St} {a:Act} {w:World} (h:Rep fr ρ s a w) {i:Nat} {q:Place} {b:Nat} (hi:ρ i=some q) (hb:q.block=some b):b<w.heap.size:=by
 have:=h.heap i
 rw [hi] at this
 exact this.lt hb
theorem Rep.heapEq {fr:Fr} {ρ:Pl} {s:St} {a:Act} {w w':World} (h:Rep fr ρ s a w) (h1:w'.heap=w.heap) (h2:w'.os=w.os) (h3:w'.tape=w.tape) (h4:w'.output=w.output):Rep fr ρ s a w':=by
 have hl:Later w (Av fr.F ρ) ρ w' (Av fr.F ρ) ρ:=⟨by rw [h1];exact Nat.le_refl _,fun _ _ h=>h,fun _ _ _=>by rw [h1],fun _ _ h=>h⟩
 exact { keep:=⟨h2.trans h.keep.os,h3.trans h.keep.tape,h4.trans h.keep.output,by rw [h1];exact h.keep.size,fun k hk hm=>by rw [h1];exact h.keep.block k hk hm⟩
         base:=by rw [h1];exact h.base
         defers:=h.defers
         heap:=fun i=>(h.heap i).later hl fun _ _ _ _=>by rw [h1]
         inj:=h.inj,mine:=h.mine,fF:=h.fF,pin:=h.pin
         env:=h.env.later _ hl }
theorem Rep.put {fr:Fr} {ρ:Pl} {s:St} {a:Act} {w:World} (h:Rep fr ρ s a w) (d:Option Tmp) {x:AV} {v:Value} (hx:Rp w (Av fr.F ρ) ρ x v) :
  Rep fr ρ ⟨(match d with | some d=>s.env.set d x | none=>s.env),s.hp⟩ (a.put d v) w:=by
 cases d with
 | none=>exact { h with }
 | some d =>
  exact { keep:=h.keep,base:=h.base,defers:=h.defers,heap:=h.heap,inj:=h.inj,mine:=h.mine,fF:=h.fF,pin:=h.pin
          env:=by
            have:=h.env.set d hx
            simpa [Act.put,Array.toList_setIfInBounds] using this }
def Pl.put (ρ:Pl) (d:Nat) (p:Option Place):Pl:=fun i=>if i=d then p else ρ i
theorem Pl.put_same (ρ:Pl) (d:Nat) (p:Option Place):ρ.put d p d=p:=by simp [Pl.put]
theorem Pl.put_ne (ρ:Pl) {d i:Nat} (p:Option Place) (h:i≠d):ρ.put d p i=ρ i:=by simp [Pl.put,h]
theorem getD_set_same {α:Type} (l:List α) (i:Nat) (x d:α) (h:i<l.length):(l.set i x).getD i d=x:=by
 simp [List.getD_eq_getElem?_getD,h]
theorem getD_set_other {α:Type} (l:List α) (i j:Nat) (x d:α) (h:j≠i):(l.set i x).getD j d=l.getD j d:=by
 simp [List.getD_eq_getElem?_getD,List.getElem?_set_ne (Ne.symm h)]
theorem Rep.alloc {fr:Fr} {ρ:Pl} {s:St} {a:Act} {w:World} (h:Rep fr ρ s a w) {d:Nat} (hd:s.hp[d]?=some .dead) {T:TypeId} {pf:Bool} {rows:List (List AV)} {vss:List (List Value)} {rest:List Value} {k cap:Nat}
  (hr:RpR w (Av fr.F ρ) (Pf pf ρ) rows vss) (hs:AllLen k rows) (hl:(vss.flatten++rest).length=cap*k) (hc:rows.length≤cap) (hm:cap≤maxLen) :
  Rep fr (ρ.put d (some (.blk w.heap.size k cap rows.length))) ⟨s.env,s.hp.set d (.arr T k pf rows)⟩ a (w.alloc (.cells (vss.flatten++rest).toArray T)):=by
 have hdl:d<s.hp.length:=(List.getElem?_eq_some_iff.1 hd).1
 have hρd:ρ d=none:=by
  have:=h.heap d
  rw [show s.hp.getD d .dead = .dead by simp [List.getD_eq_getElem?_getD,hd]] at this
  exact this
 have hav:∀ k',k'<w.heap.size→Av fr.F (ρ.put d (some (.blk w.heap.size k cap rows.length))) k'→Av fr.F ρ k':=by
  rintro k' hk' (h1 | ⟨i,p,h1,h2⟩)
  ·exact .inl h1
  ·by_cases hi:i=d
   ·subst hi
    rw [Pl.put_same] at h1
    cases h1
    simp [Place.block] at h2
    omega
   ·rw [Pl.put_ne _ _ hi] at h1
    exact .inr ⟨i,p,h1,h2⟩
 have hlat:Later w (Av fr.F ρ) ρ (w.alloc (.cells (vss.flatten++rest).toArray T)) (Av fr.F (ρ.put d (some (.blk w.heap.size k cap rows.length)))) (ρ.put d (some (.blk w.heap.size k cap rows.length))) :=
  ⟨by simp,hav,fun k' hk' _=>heap_alloc_old w _ k' hk',fun i p hp=>by
   by_cases hi:i=d
   ·subst hi;rw [hρd] at hp;cases hp
   ·rw [Pl.put_ne _ _ hi];exact hp⟩
 refine { keep:=⟨h.keep.os,h.keep.tape,h.keep.output,Nat.le_trans h.keep.size (by simp),fun k' hk' hm'=>?_⟩,base:=Nat.le_trans h.base (by simp),defers:=h.defers,heap:=fun i=>?_,inj:=?_,mine:=?_,fF:=h.fF,pin:=fun i hi=>?_,env:=h.env.later _ hlat }
 ·rw [heap_alloc_old w _ k' (Nat.lt_of_lt_of_le hk' h.base)]
  exact h.keep.block k' hk' hm'
 ·by_cases hi:i=d
  ·subst hi
   rw [getD_set_same _ _ _ _ hdl,Pl.put_same]
   exact ⟨rfl,rfl,vss,rest,heap_alloc_new w _,hr.later _ (hlat.pf pf),hs,hl,hc,hm⟩
  ·show HRo _ _ _ ((s.hp.set d (.arr T k pf rows)).getD i .dead) _
   rw [getD_set_other _ _ _ _ _ hi,Pl.put_ne _ _ hi]
   exact (h.heap i).later hlat fun q b hq hb=>heap_alloc_old w _ b (h.lt hq hb)
 ·intro i j p q b hi hj hp hq
  by_cases hid:i=d
  ·by_cases hjd:j=d
   ·rw [hid,hjd]
   ·subst hid
    rw [Pl.put_same] at hi
    cases hi
    rw [Pl.put_ne _ _ hjd] at hj
    simp [Place.block] at hp
    have:=h.lt hj hq
    omega
  ·rw [Pl.put_ne _ _ hid] at hi
   by_cases hjd:j=d
   ·subst hjd
    rw [Pl.put_same] at hj
    cases hj
    simp [Place.block] at hq
    have:=h.lt hi hp
    omega
   ·rw [Pl.put_ne _ _ hjd] at hj
    exact h.inj i j p q b hi hj hp hq
 ·intro i p b hi hp
  by_cases hid:i=d
  ·subst hid
   rw [Pl.put_same] at hi
   cases hi
   simp [Place.block] at hp
   subst hp
   exact .inl h.base
  ·rw [Pl.put_ne _ _ hid] at hi
   exact h.mine i p b hi hp
 ·by_cases hid:i=d
  ·subst hid
   exact absurd hρd (h.pin i hi).2
  ·rw [Pl.put_ne _ _ hid]
   exact h.pin i hi
theorem setRow_heap_same {w:World} {b:Nat} {cur:Array Value} {T:TypeId} {fr:Nat × Nat} (cs:Array Value) (h:w.heap[b]?=some (.cells cur T fr)):(w.setRow b cs).heap[b]?=some (.cells cs T fr):=setRow_heap w b cur cs T fr h
theorem Rep.setObj {fr:Fr} {ρ:Pl} {s:St} {a:Act} {w:World} (h:Rep fr ρ s a w) {i:Nat} {T:TypeId} {k:Nat} {pf:Bool} {rows:List (List AV)} (hi:s.hp[i]?=some (.arr T k pf rows)) {b cap:Nat} (hp:ρ i=some (.blk b k cap rows.length))
  {rows':List (List AV)} {vss:List (List Value)} {rest:List Value} (hr:RpR w (Av fr.F ρ) (Pf pf ρ) rows' vss) (hs:AllLen k rows') (hl:(vss.flatten++rest).length=cap*k) (hc:rows'.length=rows.length) :
  Rep fr ρ ⟨s.env,s.hp.set i (.arr T k pf rows')⟩ a (w.setRow b (vss.flatten++rest).toArray):=by
 have hil:i<s.hp.length:=(List.getElem?_eq_some_iff.1 hi).1
 have ho:=h.heap i
 rw [show s.hp.getD i .dead = .arr T k pf rows by simp [List.getD_eq_getElem?_getD,hi],hp] at ho
 obtain ⟨_,_,vss0,rest0,h1,h2,h3,h4,h5,h6⟩:=ho
 have hA:Av fr.F ρ b := .inr ⟨i,_,hp,rfl⟩
 have hother:∀ k',k'≠b→(w.setRow b (vss.flatten++rest).toArray).heap[k']?=w.heap[k']?:=fun k' hk'=>setRow_other w b k' _ hk'
 have hlat:Later w (Av fr.F ρ) ρ (w.setRow b (vss.flatten++rest).toArray) (Av fr.F ρ) ρ :=
  ⟨by simp,fun _ _ h=>h,fun k' _ hk'=>hother k' (fun e=>hk' (e ▸ hA)),fun _ _ h=>h⟩
 refine { keep:=⟨h.keep.os,h.keep.tape,h.keep.output,Nat.le_trans h.keep.size (by simp),fun k' hk' hm'=>?_⟩,base:=Nat.le_trans h.base (by simp),defers:=h.defers,heap:=fun j=>?_,inj:=h.inj,mine:=h.mine,fF:=h.fF,pin:=h.pin,env:=h.env.later _ hlat }
 ·rw [hother]
  ·exact h.keep.block k' hk' hm'
  ·rintro rfl
   rcases h.mine i _ _ hp rfl with h7 | h7
   ·omega
   ·exact hm' h7
 ·by_cases hj:j=i
  ·subst hj
   rw [getD_set_same _ _ _ _ hil,hp]
   exact ⟨rfl,hc,vss,rest,setRow_heap_same _ h1,hr.later _ (hlat.pf pf),hs,hl,by omega,h6⟩
  ·show HRo _ _ _ ((s.hp.set i (.arr T k pf rows')).getD j .dead) _
   rw [getD_set_other _ _ _ _ _ hj]
   refine (h.heap j).later hlat fun q b' hq hb'=>hother b' ?_
   rintro rfl
   exact hj (h.inj j i q _ _ hq hp hb' rfl)
theorem noPl_later {w:World} {A:Nat→Prop} (ρ:Pl):Later w A noPl w A ρ:=⟨Nat.le_refl _,fun _ _ h=>h,fun _ _ _=>rfl,fun _ _ h=>by cases h⟩
theorem Rps.pure' {w:World} {A:Nat→Prop} {l:List AV} {vs:List Value} (h:Rps w A noPl l vs) (ρ:Pl):Rps w A ρ l vs:=h.later _ (noPl_later ρ)
theorem RpR.pure' {w:World} {A:Nat→Prop} {l:List (List AV)} {vs:List (List Value)} (h:RpR w A noPl l vs) (ρ:Pl):RpR w A ρ l vs:=h.later _ (noPl_later ρ)
mutual
def AV.kill (i:Nat):AV→AV
 | .sref j off n=>if j=i then .any else .sref j off n
 | .ptr j r off=>if j=i then .any else .ptr j r off
 | .mp j=>if j=i then .any else .mp j
 | .it j=>if j=i then .any else .it j
 | .agg cs => .agg (AV.kills i cs)
 | .tup cs => .tup (AV.kills i cs)
 | .fn f fs cs => .fn f (AV.kills i fs) (AV.kills i cs)
 | .ifc t x => .ifc t (AV.kill i x)
 | x=>x
def AV.kills (i:Nat):List AV→List AV
 | []=>[]
 | x::xs=>AV.kill i x::AV.kills i xs
end
mutual
def AV.froz (i:Nat) (rows:List (List AV)):AV→AV
 | .sref j off n=>if j=i then .sl ((rows.drop off).take n) else .sref j off n
 | .ptr j r off=>if j=i then .ia (rows.getD r []) off else .ptr j r off
 | .mp j=>if j=i then .any else .mp j
 | .it j=>if j=i then .any else .it j
 | .agg cs => .agg (AV.frozs i rows cs)
 | .tup cs => .tup (AV.frozs i rows cs)
 | .fn f fs cs => .fn f (AV.frozs i rows fs) (AV.frozs i rows cs)
 | .ifc t x => .ifc t (AV.froz i rows x)
 | x=>x
def AV.frozs (i:Nat) (rows:List (List AV)):List AV→List AV
 | []=>[]
 | x::xs=>AV.froz i rows x::AV.frozs i rows xs
end
mutual
def AV.pure:AV→Bool
 | .sref _ _ _=>false
 | .ptr _ _ _=>false
 | .mp _=>false
 | .it _=>false
 | .agg cs=>AV.pures cs
 | .tup cs=>AV.pures cs
 | .fn _ fs cs=>AV.pures fs&&AV.pures cs
 | .ifc _ x=>AV.pure x
 | _=>true
def AV.pures:List AV→Bool
 | []=>true
 | x::xs=>AV.pure x&&AV.pures xs
end
mutual
theorem Rp.pure {w:World} {A:Nat→Prop} {ρ:Pl} (ρ':Pl):∀ (x:AV) {v:Value},x.pure=true→Rp w A ρ x v→Rp w A ρ' x v
 | .any,_,_,h=>by simp only [Rp]
 | .und,_,_,h=>by simpa only [Rp] using h
 | .int _ _,_,_,h=>by simpa only [Rp] using h
 | .bool _,_,_,h=>by simpa only [Rp] using h
 | .str _,_,_,h=>by simpa only [Rp] using h
 | .nils,_,_,h=>by simpa only [Rp] using h
 | .sl rows,v,_,h=>by simpa only [Rp] using h
 | .ia row off,v,_,h=>by simpa only [Rp] using h
 | .sref i off n,v,hp,h=>by simp [AV.pure] at hp
 | .ptr i j off,v,hp,h=>by simp [AV.pure] at hp
 | .nilp,_,_,h=>by simpa only [Rp] using h
 | .agg cs,v,hp,h=>by
  simp only [AV.pure] at hp
  simp only [Rp] at h ⊢
  obtain ⟨vs,h1,h2⟩:=h
  exact ⟨vs,h1,Rps.pure ρ' cs hp h2⟩
 | .tup cs,v,hp,h=>by
  simp only [AV.pure] at hp
  simp only [Rp] at h ⊢
  obtain ⟨vs,h1,h2⟩:=h
  exact ⟨vs,h1,Rps.pure ρ' cs hp h2⟩
 | .fn f fs cs,v,hp,h=>by
  simp only [AV.pure,Bool.and_eq_true] at hp
  simp only [Rp] at h ⊢
  obtain ⟨us,vs,h1,h2,h3⟩:=h
  exact ⟨us,vs,h1,Rps.pure ρ' fs hp.1 h2,Rps.pure ρ' cs hp.2 h3⟩
 | .nilfn,_,_,h=>by simpa only [Rp] using h
 | .ifc t x,v,hp,h=>by
  simp only [AV.pure] at hp
  simp only [Rp] at h ⊢
  obtain ⟨y,h1,h2⟩:=h
  exact ⟨y,h1,Rp.pure ρ' x hp h2⟩
 | .nilif,_,_,h=>by simpa only [Rp] using h
 | .gl _,_,_,h=>by simpa only [Rp] using h
 | .mp i,v,hp,h=>by simp [AV.pure] at hp
 | .nilmp,_,_,h=>by simpa only [Rp] using h
 | .it i,v,hp,h=>by simp [AV.pure] at hp
 | .md clock births rows,v,_,h=>by simpa only [Rp] using h
theorem Rps.pure {w:World} {A:Nat→Prop} {ρ:Pl} (ρ':Pl):∀ (l:List AV) {vs:List Value},AV.pures l=true→Rps w A ρ l vs→Rps w A ρ' l vs
 | [],_,_,h=>by simpa only [Rps] using h
 | x::xs,vs,hp,h=>by
  simp only [AV.pures,Bool.and_eq_true] at hp
  simp only [Rps] at h ⊢
  obtain ⟨v,us,h1,h2,h3⟩:=h
  exact ⟨v,us,h1,Rp.pure ρ' x hp.1 h2,Rps.pure ρ' xs hp.2 h3⟩
end
def AllPure (rows:List (List AV)):Prop:=∀ r∈rows,AV.pures r=true
theorem RpR.pure {w:World} {A:Nat→Prop} {ρ:Pl} (ρ':Pl):∀ {l:List (List AV)} {vs:List (List Value)},AllPure l→RpR w A ρ l vs→RpR w A ρ' l vs
 | [],_,_,h=>by simpa only [RpR] using h
 | x::xs,vs,hp,h=>by
  simp only [RpR] at h ⊢
  obtain ⟨v,us,h1,h2,h3⟩:=h
  exact ⟨v,us,h1,Rps.pure ρ' x (hp x List.mem_cons_self) h2,h3.pure ρ' fun r hr=>hp r (List.mem_cons_of_mem _ hr)⟩
structure LaterBut (i:Nat) (w:World) (A:Nat→Prop) (ρ:Pl) (w':World) (A':Nat→Prop) (ρ':Pl):Prop where
 size:w.heap.size≤w'.heap.size
 av:∀ k,k<w.heap.size→A' k→A k
 mem:∀ k,k<w.heap.size→¬ A k→w'.heap[k]?=w.heap[k]?
 pl:∀ j p,j≠i→ρ j=some p→ρ' j=some p
theorem LaterBut.none {i:Nat} {w:World} {A:Nat→Prop} {ρ:Pl} {w':World} {A':Nat→Prop} {ρ':Pl} (h:LaterBut i w A ρ w' A' ρ'):Later w A noPl w' A' noPl :=
 ⟨h.size,h.av,h.mem,fun _ _ h=>by cases h⟩
mutual
theorem Rp.kill {i:Nat} {w w':World} {A A':Nat→Prop} {ρ ρ':Pl} (hl:LaterBut i w A ρ w' A' ρ'):∀ (x:AV) {v:Value},Rp w A ρ x v→Rp w' A' ρ' (x.kill i) v
 | .any,_,h=>by simp only [AV.kill,Rp]
 | .und,_,h=>by simpa only [AV.kill,Rp] using h
 | .int _ _,_,h=>by simpa only [AV.kill,Rp] using h
 | .bool _,_,h=>by simpa only [AV.kill,Rp] using h
 | .str _,_,h=>by simpa only [AV.kill,Rp] using h
 | .nils,_,h=>by simpa only [AV.kill,Rp] using h
 | .sl rows,v,h=>by
  have:=Rp.later (ρ:=noPl) (ρ':=noPl) (.sl rows) hl.none (by simpa only [Rp] using h)
  simpa only [AV.kill,Rp] using this
 | .ia row off,v,h=>by
  have:=Rp.later (ρ:=noPl) (ρ':=noPl) (.ia row off) hl.none (by simpa only [Rp] using h)
  simpa only [AV.kill,Rp] using this
 | .sref j off n,v,h=>by
  simp only [AV.kill]
  split
  ·simp only [Rp]
  ·rename_i hj
   simp only [Rp] at h ⊢
   rcases h with ⟨h1,h2⟩ | ⟨b,s,cap,len,x,h1,h2⟩
   ·exact .inl ⟨hl.pl _ _ hj h1,h2⟩
   ·exact .inr ⟨b,s,cap,len,x,hl.pl _ _ hj h1,h2⟩
 | .ptr j r off,v,h=>by
  simp only [AV.kill]
  split
  ·simp only [Rp]
  ·rename_i hj
   simp only [Rp] at h ⊢
   obtain ⟨b,s,cap,len,h1,h2⟩:=h
   exact ⟨b,s,cap,len,hl.pl _ _ hj h1,h2⟩
 | .nilp,_,h=>by simpa only [AV.kill,Rp] using h
 | .agg cs,v,h=>by
  simp only [AV.kill,Rp] at h ⊢
  obtain ⟨vs,h1,h2⟩:=h
  exact ⟨vs,h1,Rps.kill hl cs h2⟩
 | .tup cs,v,h=>by
  simp only [AV.kill,Rp] at h ⊢
  obtain ⟨vs,h1,h2⟩:=h
  exact ⟨vs,h1,Rps.kill hl cs h2⟩
 | .fn f fs cs,v,h=>by
  simp only [AV.kill,Rp] at h ⊢
  obtain ⟨us,vs,h1,h2,h3⟩:=h
  exact ⟨us,vs,h1,Rps.kill hl fs h2,Rps.kill hl cs h3⟩
 | .nilfn,_,h=>by simpa only [AV.kill,Rp] using h
 | .ifc t x,v,h=>by
  simp only [AV.kill,Rp] at h ⊢
  obtain ⟨y,h1,h2⟩:=h
  exact ⟨y,h1,Rp.kill hl x h2⟩
 | .nilif,_,h=>by simpa only [AV.kill,Rp] using h
 | .gl _,_,h=>by simpa only [AV.kill,Rp] using h
 | .mp j,v,h=>by
  simp only [AV.kill]
  split
  ·simp only [Rp]
  ·rename_i hj
   simp only [Rp] at h ⊢
   obtain ⟨b,h1,h2⟩:=h
   exact ⟨b,hl.pl _ _ hj h1,h2⟩
 | .nilmp,_,h=>by simpa only [AV.kill,Rp] using h
 | .it j,v,h=>by
  simp only [AV.kill]
  split
  ·simp only [Rp]
  ·rename_i hj
   simp only [Rp] at h ⊢
   obtain ⟨b,h1,h2⟩:=h
   exact ⟨b,hl.pl _ _ hj h1,h2⟩
 | .md clock births rows',v,h=>by
  have:=Rp.later (ρ:=noPl) (ρ':=noPl) (.md clock births rows') hl.none (by simpa only [Rp] using h)
  simpa only [AV.kill,Rp] using this
theorem Rps.kill {i:Nat} {w w':World} {A A':Nat→Prop} {ρ ρ':Pl} (hl:LaterBut i w A ρ w' A' ρ'):∀ (l:List AV) {vs:List Value},Rps w A ρ l vs→Rps w' A' ρ' (AV.kills i l) vs
 | [],_,h=>by simpa only [AV.kills,Rps] using h
 | x::xs,vs,h=>by
  simp only [AV.kills,Rps] at h ⊢
  obtain ⟨v,us,h1,h2,h3⟩:=h
  exact ⟨v,us,h1,Rp.kill hl x h2,Rps.kill hl xs h3⟩
end
theorem kills_length (i:Nat):∀ l:List AV,(AV.kills i l).length=l.length
 | []=>rfl
 | x::xs=>by simp [AV.kills,kills_length i xs]
def Ob.kill (i:Nat):Ob→Ob
 | .dead => .dead
 | .arr T k p rows => .arr T k p (if p then rows else rows.map (AV.kills i))
 | .map clock births rows => .map clock births rows
 | .iter m since seen stepped => .iter (m.kill i) since seen stepped
theorem RpR.kill {i:Nat} {w w':World} {A A':Nat→Prop} {ρ ρ':Pl} (hl:LaterBut i w A ρ w' A' ρ'):∀ {l:List (List AV)} {vs:List (List Value)},RpR w A ρ l vs→RpR w' A' ρ' (l.map (AV.kills i)) vs
 | [],_,h=>by simpa only [List.map_nil,RpR] using h
 | x::xs,vs,h=>by
  simp only [List.map_cons,RpR] at h ⊢
  obtain ⟨v,us,h1,h2,h3⟩:=h
  exact ⟨v,us,h1,Rps.kill hl x h2,h3.kill hl⟩
mutual
theorem Rp.froz {i:Nat} {w:World} {A A':Nat→Prop} {ρ ρ':Pl} {rows:List (List AV)} (hl:LaterBut i w A ρ w A' ρ')
  (h1:∀ off n v,Rp w A ρ (.sref i off n) v→Rp w A' ρ' (.sl ((rows.drop off).take n)) v) (h2:∀ r off v,Rp w A ρ (.ptr i r off) v→Rp w A' ρ' (.ia (rows.getD r []) off) v) :
  ∀ (x:AV) {v:Value},Rp w A ρ x v→Rp w A' ρ' (x.froz i rows) v
 | .any,_,h=>by simp only [AV.froz,Rp]
 | .und,_,h=>by simpa only [AV.froz,Rp] using h
 | .int _ _,_,h=>by simpa only [AV.froz,Rp] using h
 | .bool _,_,h=>by simpa only [AV.froz,Rp] using h
 | .str _,_,h=>by simpa only [AV.froz,Rp] using h
 | .nils,_,h=>by simpa only [AV.froz,Rp] using h
 | .sl rows',v,h=>by
  have:=Rp.later (ρ:=noPl) (ρ':=noPl) (.sl rows') hl.none (by simpa only [Rp] using h)
  simpa only [AV.froz,Rp] using this
 | .ia row off,v,h=>by
  have:=Rp.later (ρ:=noPl) (ρ':=noPl) (.ia row off) hl.none (by simpa only [Rp] using h)
  simpa only [AV.froz,Rp] using this
 | .sref j off n,v,h=>by
  simp only [AV.froz]
  split
  ·rename_i hj;subst hj;exact h1 off n v h
  ·rename_i hj
   simp only [Rp] at h ⊢
   rcases h with ⟨h1,h2⟩ | ⟨b,s,cap,len,x,h1,h2⟩
   ·exact .inl ⟨hl.pl _ _ hj h1,h2⟩
   ·exact .inr ⟨b,s,cap,len,x,hl.pl _ _ hj h1,h2⟩
 | .ptr j r off,v,h=>by
  simp only [AV.froz]
  split
  ·rename_i hj;subst hj;exact h2 r off v h
  ·rename_i hj
   simp only [Rp] at h ⊢
   obtain ⟨b,s,cap,len,h1,h2⟩:=h
   exact ⟨b,s,cap,len,hl.pl _ _ hj h1,h2⟩
 | .nilp,_,h=>by simpa only [AV.froz,Rp] using h
 | .agg cs,v,h=>by
  simp only [AV.froz,Rp] at h ⊢
  obtain ⟨vs,h3,h4⟩:=h
  exact ⟨vs,h3,Rps.froz hl h1 h2 cs h4⟩
 | .tup cs,v,h=>by
  simp only [AV.froz,Rp] at h ⊢
  obtain ⟨vs,h3,h4⟩:=h
  exact ⟨vs,h3,Rps.froz hl h1 h2 cs h4⟩
 | .fn f fs cs,v,h=>by
  simp only [AV.froz,Rp] at h ⊢
  obtain ⟨us,vs,h3,h4,h5⟩:=h
  exact ⟨us,vs,h3,Rps.froz hl h1 h2 fs h4,Rps.froz hl h1 h2 cs h5⟩
 | .nilfn,_,h=>by simpa only [AV.froz,Rp] using h
 | .ifc t x,v,h=>by
  simp only [AV.froz,Rp] at h ⊢
  obtain ⟨y,h3,h4⟩:=h
  exact ⟨y,h3,Rp.froz hl h1 h2 x h4⟩
 | .nilif,_,h=>by simpa only [AV.froz,Rp] using h
 | .gl _,_,h=>by simpa only [AV.froz,Rp] using h
 | .mp j,v,h=>by
  simp only [AV.froz]
  split
  ·simp only [Rp]
  ·rename_i hj
   simp only [Rp] at h ⊢
   obtain ⟨b,h1,h2⟩:=h
   exact ⟨b,hl.pl _ _ hj h1,h2⟩
 | .nilmp,_,h=>by simpa only [AV.froz,Rp] using h
 | .it j,v,h=>by
  simp only [AV.froz]
  split
  ·simp only [Rp]
  ·rename_i hj
   simp only [Rp] at h ⊢
   obtain ⟨b,h1,h2⟩:=h
   exact ⟨b,hl.pl _ _ hj h1,h2⟩
 | .md clock births rows',v,h=>by
  have:=Rp.later (ρ:=noPl) (ρ':=noPl) (.md clock births rows') hl.none (by simpa only [Rp] using h)
  simpa only [AV.froz,Rp] using this
theorem Rps.froz {i:Nat} {w:World} {A A':Nat→Prop} {ρ ρ':Pl} {rows:List (List AV)} (hl:LaterBut i w A ρ w A' ρ')
  (h1:∀ off n v,Rp w A ρ (.sref i off n) v→Rp w A' ρ' (.sl ((rows.drop off).take n)) v) (h2:∀ r off v,Rp w A ρ (.ptr i r off) v→Rp w A' ρ' (.ia (rows.getD r []) off) v) :
  ∀ (l:List AV) {vs:List Value},Rps w A ρ l vs→Rps w A' ρ' (AV.frozs i rows l) vs
 | [],_,h=>by simpa only [AV.frozs,Rps] using h
 | x::xs,vs,h=>by
  simp only [AV.frozs,Rps] at h ⊢
  obtain ⟨v,us,h3,h4,h5⟩:=h
  exact ⟨v,us,h3,Rp.froz hl h1 h2 x h4,Rps.froz hl h1 h2 xs h5⟩
end
theorem HRo.restM {i:Nat} {w w':World} {A A':Nat→Prop} {ρ ρ':Pl} (hl:LaterBut i w A ρ w' A' ρ') {clock:Nat} {births:List Nat} {rows:List (List AV)} {p:Option Place} (h:HRo w A ρ (.map clock births rows) p)
  (hb:∀ q b,p=some q→q.block=some b→w'.heap[b]?=w.heap[b]?):HRo w' A' ρ' (.map clock births rows) p:=by
 match p,h,hb with
 | some (.mapb b),h,hb =>
  obtain ⟨ents,h1,h2,h3,h4⟩:=h
  exact ⟨ents,(hb _ b rfl rfl).trans h1,h2,h3,h4.later _ hl.none⟩
 | some .nil,h,_=>exact h
 | some (.blk _ _ _ _),h,_=>exact h
 | none,h,_=>exact h
theorem HRo.restI {w w':World} {A A':Nat→Prop} {ρ ρ':Pl} {m m':AV} (hm:∀ v,Rp w A ρ m v→Rp w' A' ρ' m' v) {since:Nat} {seen:List Nat} {stepped:Nat} {p:Option Place} (h:HRo w A ρ (.iter m since seen stepped) p)
  (hb:∀ q b,p=some q→q.block=some b→w'.heap[b]?=w.heap[b]?):HRo w' A' ρ' (.iter m' since seen stepped) p:=by
 match p,h,hb with
 | some (.mapb b),h,hb =>
  obtain ⟨x,h1,h2⟩:=h
  exact ⟨x,(hb _ b rfl rfl).trans h1,hm _ h2⟩
 | some .nil,h,_=>exact h
 | some (.blk _ _ _ _),h,_=>exact h
 | none,h,_=>exact h
def Ob.froz (i:Nat) (rows:List (List AV)):Ob→Ob
 | .dead => .dead
 | .arr T k p rs => .arr T k p (if p then rs else rs.map (AV.frozs i rows))
 | .map clock births rs => .map clock births rs
 | .iter m since seen stepped => .iter (m.froz i rows) since seen stepped
def St.freeze (s:St) (i:Nat) (rows:List (List AV)):St:=⟨AV.frozs i rows s.env,(s.hp.set i .dead).map (Ob.froz i rows)⟩
def St.forget (s:St) (i:Nat):St:=⟨AV.kills i s.env,(s.hp.set i .dead).map (Ob.kill i)⟩
theorem frozs_length (i:Nat) (rows:List (List AV)):∀ l:List AV,(AV.frozs i rows l).length=l.length
 | []=>rfl
 | x::xs=>by simp [AV.frozs,frozs_length i rows xs]
theorem allLen_take {s:Nat} {l:List (List AV)} (h:AllLen s l) (n:Nat):AllLen s (l.take n):=fun r hr=>h r (List.mem_of_mem_take hr)
theorem allLen_drop {s:Nat} {l:List (List AV)} (h:AllLen s l) (n:Nat):AllLen s (l.drop n):=fun r hr=>h r (List.mem_of_mem_drop hr)
theorem flatten_drop_at {α:Type} {s:Nat} {l:List (List α)} (h:∀ r∈l,r.length=s) (off n j:Nat) {u:α} (hj:((l.drop off).take n).flatten[j]?=some u):l.flatten[off*s+j]?=some u:=by
 have h1:l=l.take off++((l.drop off).take n++(l.drop off).drop n):=by rw [List.take_append_drop,List.take_append_drop]
 by_cases ho:off≤l.length
 ·have h2:(l.take off).flatten.length=off*s:=by
   rw [flatten_length fun r hr=>h r (List.mem_of_mem_take hr),List.length_take,Nat.min_eq_left ho]
  have h3:l.flatten=(l.take off).flatten++(((l.drop off).take n).flatten++((l.drop off).drop n).flatten):=by
   conv=>lhs;rw [h1]
   rw [List.flatten_append,List.flatten_append]
  rw [h3,List.getElem?_append_right (by omega),h2,show off*s+j-off*s=j by omega,List.getElem?_append_left (List.getElem?_eq_some_iff.1 hj).1]
  exact hj
 ·rw [List.drop_eq_nil_of_le (by omega)] at hj
  simp at hj
theorem Holds.cells {w:World} {A:Nat→Prop} {ρ:Pl} {T:TypeId} {rows:List (List AV)} {b s cap:Nat} (h:Holds w A ρ T rows b s cap) :
  ∃ vss,RpR w A ρ rows vss∧(∀ r∈vss,r.length=s)∧CellsAt w b 0 vss.flatten:=by
 obtain ⟨vss,rest,h1,h2,h3,h4,h5⟩:=h
 refine ⟨vss,h2,h2.lens h3,fun j u hj=>?_⟩
 rw [Nat.zero_add,cell_of_row w b j _ T (0,0) h1]
 simp only [List.getElem?_toArray]
 rw [List.getElem?_append_left (List.getElem?_eq_some_iff.1 hj).1]
 exact hj
theorem Rep.freeze {fr:Fr} {ρ:Pl} {s:St} {a:Act} {w:World} (h:Rep fr ρ s a w) {i:Nat} {T:TypeId} {k0:Nat} {pf:Bool} {rows:List (List AV)} (hi:s.hp[i]?=some (.arr T k0 pf rows)) (hpin:i∉fr.pins) (hpure:pf=true∨AllPure rows) :
  Rep fr (ρ.put i none) (s.freeze i rows) a w:=by
 have hil:i<s.hp.length:=(List.getElem?_eq_some_iff.1 hi).1
 have ho:=h.heap i
 rw [show s.hp.getD i .dead = .arr T k0 pf rows by simp [List.getD_eq_getElem?_getD,hi]] at ho
 have hav:∀ k,Av fr.F (ρ.put i none) k→Av fr.F ρ k:=by
  rintro k (h1 | ⟨j,p,h1,h2⟩)
  ·exact .inl h1
  ·by_cases hj:j=i
   ·subst hj;rw [Pl.put_same] at h1;cases h1
   ·rw [Pl.put_ne _ _ hj] at h1;exact .inr ⟨j,p,h1,h2⟩
 have hlat:LaterBut i w (Av fr.F ρ) ρ w (Av fr.F (ρ.put i none)) (ρ.put i none) :=
  ⟨Nat.le_refl _,fun k _ hk=>hav k hk,fun _ _ _=>rfl,fun j p hj hp=>by rw [Pl.put_ne _ _ hj];exact hp⟩
 have hfree:∀ b k cap len,ρ i=some (.blk b k cap len)→¬ Av fr.F (ρ.put i none) b:=by
  rintro b k cap len hp (h1 | ⟨j,p,h1,h2⟩)
  ·rcases h.mine i _ b hp rfl with h3 | h3
   ·have:=h.fF b h1;omega
   ·exact fr.dis b h1 h3
  ·by_cases hj:j=i
   ·subst hj;rw [Pl.put_same] at h1;cases h1
   ·rw [Pl.put_ne _ _ hj] at h1
    exact hj (h.inj j i p _ b h1 hp h2 rfl)
 have hrows:∀ vss,RpR w (Av fr.F ρ) (Pf pf ρ) rows vss→RpR w (Av fr.F (ρ.put i none)) noPl rows vss:=fun vss hr=>by
  refine RpR.later (ρ:=noPl) rows hlat.none ?_
  rcases hpure with rfl | hp
  ·exact hr
  ·exact hr.pure noPl hp
 have hsr:∀ off n v,Rp w (Av fr.F ρ) ρ (.sref i off n) v→Rp w (Av fr.F (ρ.put i none)) (ρ.put i none) (.sl ((rows.drop off).take n)) v:=by
  intro off n v hv
  simp only [Rp] at hv ⊢
  rcases hv with ⟨h1,rfl,rfl,rfl⟩ | ⟨b,s',cap,len,x,h1,h2,rfl,h4⟩
  ·exact ⟨none,0,by simp,by simp,by simp [maxLen],.inl (by simp)⟩
  ·have hlt:=h.lt h1 rfl
   rw [h1] at ho
   obtain ⟨_,hlen0,hh⟩:=ho
   obtain ⟨vss,hr,hlens,hcells⟩:=hh.cells
   obtain ⟨_,rest0,hb,hr0,hal,hlen,hcap,hmax⟩:=hh
   have hl:((rows.drop off).take n).length=n:=by simp;omega
   rw [hl]
   refine ⟨_,_,rfl,by omega,by omega,?_⟩
   by_cases hn:n=0
   ·exact .inl (List.eq_nil_of_length_eq_zero (by omega))
   ·refine .inr ⟨b,x,(vss.drop off).take n,rfl,hfree b s' cap len h1,hlt,?_,((hrows vss hr).drop off).take n⟩
    intro j u hj
    rw [h4 (.inl (by omega))]
    have:=hcells _ u (flatten_drop_at hlens off n j hj)
    rwa [Nat.zero_add] at this
 have hpt:∀ r off v,Rp w (Av fr.F ρ) ρ (.ptr i r off) v→Rp w (Av fr.F (ρ.put i none)) (ρ.put i none) (.ia (rows.getD r []) off) v:=by
  intro r off v hv
  simp only [Rp] at hv ⊢
  obtain ⟨b,s',cap,len,h1,rfl⟩:=hv
  have hlt:=h.lt h1 rfl
  rw [h1] at ho
  obtain ⟨_,hlen0,hh⟩:=ho
  obtain ⟨vss,hr,hlens,hcells⟩:=hh.cells
  refine ⟨b,r*s',vss.getD r [],rfl,hfree b s' cap len h1,hlt,?_,?_⟩
  ·intro j u hj
   by_cases hr':r<vss.length
   ·have h5:vss[r]?=some (vss.getD r []):=by simp [List.getD_eq_getElem?_getD,hr']
    have:=hcells _ u (flatten_at hlens h5 hj)
    rwa [Nat.zero_add] at this
   ·simp [List.getD_eq_getElem?_getD,List.getElem?_eq_none (show vss.length≤r by omega)] at hj
  ·by_cases hr':r<rows.length
   ·obtain ⟨v,hv,hr2⟩:=(hrows vss hr).get (show rows[r]?=some (rows.getD r []) by simp [List.getD_eq_getElem?_getD,hr'])
    rw [show vss.getD r []=v by simp [List.getD_eq_getElem?_getD,hv]]
    exact hr2
   ·have:=hr.length
    rw [show rows.getD r []=[] by simp [List.getD_eq_getElem?_getD,List.getElem?_eq_none (show rows.length≤r by omega)],show vss.getD r []=[] by simp [List.getD_eq_getElem?_getD,List.getElem?_eq_none (show vss.length≤r by omega)]]
    simp only [Rps]
 have hrr:∀ {l:List (List AV)} {vs:List (List Value)},RpR w (Av fr.F ρ) ρ l vs→RpR w (Av fr.F (ρ.put i none)) (ρ.put i none) (l.map (AV.frozs i rows)) vs:=by
  intro l
  induction l with
  | nil=>intro vs h;simpa only [List.map_nil,RpR] using h
  | cons r l ih =>
   intro vs h
   simp only [List.map_cons,RpR] at h ⊢
   obtain ⟨v,us,h1,h2,h3⟩:=h
   exact ⟨v,us,h1,Rps.froz hlat hsr hpt r h2,ih h3⟩
 refine { keep:=h.keep,base:=h.base,defers:=h.defers,heap:=fun j=>?_,inj:=?_,mine:=?_,fF:=h.fF,pin:=fun j hj=>?_,env:=Rps.froz hlat hsr hpt _ h.env }
 ·by_cases hj:j=i
  ·subst hj
   have:(s.freeze j rows).hp.getD j .dead = .dead:=by simp [St.freeze,List.getD_eq_getElem?_getD,hil,Ob.froz]
   rw [this,Pl.put_same]
   rfl
  ·have:(s.freeze i rows).hp.getD j .dead=Ob.froz i rows (s.hp.getD j .dead):=by
    simp only [St.freeze,List.getD_eq_getElem?_getD,List.getElem?_map,List.getElem?_set_ne (Ne.symm hj)]
    cases s.hp[j]? <;> rfl
   rw [this,Pl.put_ne _ _ hj]
   have hj':=h.heap j
   cases hob:s.hp.getD j .dead with
   | dead=>rw [hob] at hj';exact hj'
   | map clock births rs=>rw [hob] at hj';exact HRo.restM hlat hj' (fun _ _ _ _=>rfl)
   | iter m since seen stepped=>rw [hob] at hj';exact HRo.restI (fun v hv=>Rp.froz hlat hsr hpt m hv) hj' (fun _ _ _ _=>rfl)
   | arr T' k' pf' rs =>
    rw [hob] at hj'
    match hpj:ρ j,hj' with
    | some .nil,hj'=>simp only [HRo] at hj';subst hj';cases pf' <;> rfl
    | some (.blk b k cap len),hj' =>
     obtain ⟨hk0,h0,vss,rest,h1,h2,h3,h4,h5,h6⟩:=hj'
     cases pf' with
     | true=>exact ⟨hk0,h0,vss,rest,h1,h2.later _ hlat.none,h3,h4,h5,h6⟩
     | false =>
     refine ⟨hk0,by simpa using h0,vss,rest,h1,hrr h2,?_,h4,by simpa using h5,h6⟩
     intro r hr
     obtain ⟨r',hr',rfl⟩:=List.mem_map.1 hr
     rw [frozs_length]
     exact h3 r' hr'
    | some (.mapb b),hj'=>cases hj'
    | none,hj'=>cases hj'
 ·intro j j' p q b hj hj' hp hq
  by_cases h1:j=i
  ·subst h1;rw [Pl.put_same] at hj;cases hj
  ·by_cases h2:j'=i
   ·subst h2;rw [Pl.put_same] at hj';cases hj'
   ·rw [Pl.put_ne _ _ h1] at hj
    rw [Pl.put_ne _ _ h2] at hj'
    exact h.inj j j' p q b hj hj' hp hq
 ·intro j p b hj hp
  by_cases h1:j=i
  ·subst h1;rw [Pl.put_same] at hj;cases hj
  ·rw [Pl.put_ne _ _ h1] at hj
   exact h.mine j p b hj hp
 ·by_cases h1:j=i
  ·subst h1;exact absurd hj hpin
  ·rw [Pl.put_ne _ _ h1]
   exact h.pin j hj
theorem LaterBut.pf {i:Nat} {w:World} {A:Nat→Prop} {ρ:Pl} {w':World} {A':Nat→Prop} {ρ':Pl} (h:LaterBut i w A ρ w' A' ρ') {pf:Bool} {rows:List (List AV)} {vss:List (List Value)} (hr:RpR w A (Pf pf ρ) rows vss) :
  RpR w' A' (Pf pf ρ') (if pf then rows else rows.map (AV.kills i)) vss:=by
 cases pf with
 | true=>exact hr.later _ h.none
 | false=>exact RpR.kill h hr
theorem Rep.move {fr:Fr} {ρ:Pl} {s:St} {a:Act} {w:World} (h:Rep fr ρ s a w) {i:Nat} (hil:i<s.hp.length) (hpin:i∉fr.pins) {T:TypeId} {pf:Bool}
  {rows:List (List AV)} {vss:List (List Value)} {rest:List Value} {k cap:Nat}
  (hr:RpR w (Av fr.F ρ) (Pf pf ρ) rows vss) (hs:AllLen k rows) (hl:(vss.flatten++rest).length=cap*k) (hc:rows.length≤cap) (hm:cap≤maxLen) :
  Rep fr (ρ.put i (some (.blk w.heap.size k cap rows.length))) ⟨AV.kills i s.env,(s.hp.set i (.arr T k pf rows)).map (Ob.kill i)⟩ a (w.alloc (.cells (vss.flatten++rest).toArray T)):=by
 have hav:∀ k',k'<w.heap.size→Av fr.F (ρ.put i (some (.blk w.heap.size k cap rows.length))) k'→Av fr.F ρ k':=by
  rintro k' hk' (h1 | ⟨j,p,h1,h2⟩)
  ·exact .inl h1
  ·by_cases hj:j=i
   ·subst hj
    rw [Pl.put_same] at h1
    cases h1
    simp [Place.block] at h2
    omega
   ·rw [Pl.put_ne _ _ hj] at h1
    exact .inr ⟨j,p,h1,h2⟩
 have hlat:LaterBut i w (Av fr.F ρ) ρ (w.alloc (.cells (vss.flatten++rest).toArray T)) (Av fr.F (ρ.put i (some (.blk w.heap.size k cap rows.length)))) (ρ.put i (some (.blk w.heap.size k cap rows.length))) :=
  ⟨by simp,hav,fun k' hk' _=>heap_alloc_old w _ k' hk',fun j p hj hp=>by rw [Pl.put_ne _ _ hj];exact hp⟩
 refine { keep:=⟨h.keep.os,h.keep.tape,h.keep.output,Nat.le_trans h.keep.size (by simp),fun k' hk' hm'=>?_⟩,base:=Nat.le_trans h.base (by simp),defers:=h.defers,heap:=fun j=>?_,inj:=?_,mine:=?_,fF:=h.fF,pin:=fun j hj=>?_,env:=Rps.kill hlat _ h.env }
 ·rw [heap_alloc_old w _ k' (Nat.lt_of_lt_of_le hk' h.base)]
  exact h.keep.block k' hk' hm'
 ·by_cases hj:j=i
  ·subst hj
   have:((s.hp.set j (.arr T k pf rows)).map (Ob.kill j)).getD j .dead = .arr T k pf (if pf then rows else rows.map (AV.kills j)):=by
    simp [List.getD_eq_getElem?_getD,hil,Ob.kill]
   show HRo _ _ _ (((s.hp.set j (.arr T k pf rows)).map (Ob.kill j)).getD j .dead) _
   rw [this,Pl.put_same]
   refine ⟨rfl,by cases pf <;> simp,vss,rest,heap_alloc_new w _,hlat.pf hr,?_,hl,by cases pf <;> simpa using hc,hm⟩
   cases pf with
   | true=>exact hs
   | false =>
    intro r hr1
    obtain ⟨r',hr2,rfl⟩:=List.mem_map.1 hr1
    rw [kills_length]
    exact hs r' hr2
  ·have:((s.hp.set i (.arr T k pf rows)).map (Ob.kill i)).getD j .dead=Ob.kill i (s.hp.getD j .dead):=by
    simp only [List.getD_eq_getElem?_getD,List.getElem?_map,List.getElem?_set_ne (Ne.symm hj)]
    cases s.hp[j]? <;> rfl
   show HRo _ _ _ (((s.hp.set i (.arr T k pf rows)).map (Ob.kill i)).getD j .dead) _
   rw [this,Pl.put_ne _ _ hj]
   have hj':=h.heap j
   cases hob:s.hp.getD j .dead with
   | dead=>rw [hob] at hj';exact hj'
   | map clock births rs=>rw [hob] at hj';exact HRo.restM hlat hj' (fun q b hq hb=>heap_alloc_old w _ b (h.lt hq hb))
   | iter m since seen stepped=>rw [hob] at hj';exact HRo.restI (fun v hv=>Rp.kill hlat m hv) hj' (fun q b hq hb=>heap_alloc_old w _ b (h.lt hq hb))
   | arr T' k' pf' rs =>
    rw [hob] at hj'
    match hpj:ρ j,hj' with
    | some .nil,hj'=>simp only [HRo] at hj';subst hj';cases pf' <;> rfl
    | some (.blk b k cap len),hj' =>
     have hlt:=h.lt hpj rfl
     obtain ⟨hk0,h0,vss',rest',h1,h2,h3,h4,h5,h6⟩:=hj'
     refine ⟨hk0,by cases pf' <;> simpa using h0,vss',rest',(heap_alloc_old w _ b hlt).trans h1,hlat.pf h2,?_,h4,by cases pf' <;> simpa using h5,h6⟩
     cases pf' with
     | true=>exact h3
     | false =>
      intro r hr
      obtain ⟨r',hr',rfl⟩:=List.mem_map.1 hr
      rw [kills_length]
      exact h3 r' hr'
    | some (.mapb b),hj'=>cases hj'
    | none,hj'=>cases hj'
 ·intro j j' p q b hj hj' hp hq
  by_cases hid:j=i
  ·by_cases hjd:j'=i
   ·rw [hid,hjd]
   ·subst hid
    rw [Pl.put_same] at hj
    cases hj
    rw [Pl.put_ne _ _ hjd] at hj'
    simp [Place.block] at hp
    have:=h.lt hj' hq
    omega
  ·rw [Pl.put_ne _ _ hid] at hj
   by_cases hjd:j'=i
   ·subst hjd
    rw [Pl.put_same] at hj'
    cases hj'
    simp [Place.block] at hq
    have:=h.lt hj hp
    omega
   ·rw [Pl.put_ne _ _ hjd] at hj'
    exact h.inj j j' p q b hj hj' hp hq
 ·intro j p b hj hp
  by_cases hid:j=i
  ·subst hid
   rw [Pl.put_same] at hj
   cases hj
   simp [Place.block] at hp
   subst hp
   exact .inl h.base
  ·rw [Pl.put_ne _ _ hid] at hj
   exact h.mine j p b hj hp
 ·by_cases hid:j=i
  ·subst hid
   exact absurd hj hpin
  ·rw [Pl.put_ne _ _ hid]
   exact h.pin j hj
theorem Rep.regrow {fr:Fr} {ρ:Pl} {s:St} {a:Act} {w:World} (h:Rep fr ρ s a w) {i:Nat} (hpin:i∉fr.pins) {T:TypeId} {k:Nat} {pf:Bool} {rows:List (List AV)} (hi:s.hp[i]?=some (.arr T k pf rows)) {b cap len:Nat} (hp:ρ i=some (.blk b k cap len))
  {rows':List (List AV)} {vss:List (List Value)} {rest:List Value} (hr:RpR w (Av fr.F ρ) (Pf pf ρ) rows' vss) (hs:AllLen k rows') (hl:(vss.flatten++rest).length=cap*k) (hc:rows'.length≤cap) :
  Rep fr (ρ.put i (some (.blk b k cap rows'.length))) ⟨AV.kills i s.env,(s.hp.set i (.arr T k pf rows')).map (Ob.kill i)⟩ a (w.setRow b (vss.flatten++rest).toArray):=by
 have hil:i<s.hp.length:=(List.getElem?_eq_some_iff.1 hi).1
 have ho:=h.heap i
 rw [show s.hp.getD i .dead = .arr T k pf rows by simp [List.getD_eq_getElem?_getD,hi],hp] at ho
 obtain ⟨_,_,vss0,rest0,h1,h2,h3,h4,h5,h6⟩:=ho
 have hA:Av fr.F ρ b := .inr ⟨i,_,hp,rfl⟩
 have hother:∀ k',k'≠b→(w.setRow b (vss.flatten++rest).toArray).heap[k']?=w.heap[k']?:=fun k' hk'=>setRow_other w b k' _ hk'
 have hav:∀ k',Av fr.F (ρ.put i (some (.blk b k cap rows'.length))) k'→Av fr.F ρ k':=by
  rintro k' (h1 | ⟨j,p,h1,h2⟩)
  ·exact .inl h1
  ·by_cases hj:j=i
   ·subst hj
    rw [Pl.put_same] at h1
    cases h1
    exact .inr ⟨j,_,hp,h2⟩
   ·rw [Pl.put_ne _ _ hj] at h1
    exact .inr ⟨j,p,h1,h2⟩
 have hlat:LaterBut i w (Av fr.F ρ) ρ (w.setRow b (vss.flatten++rest).toArray) (Av fr.F (ρ.put i (some (.blk b k cap rows'.length)))) (ρ.put i (some (.blk b k cap rows'.length))) :=
  ⟨by simp,fun k' _ h=>hav k' h,fun k' _ hk'=>hother k' (fun e=>hk' (e ▸ hA)),fun j p hj hp=>by rw [Pl.put_ne _ _ hj];exact hp⟩
 refine { keep:=⟨h.keep.os,h.keep.tape,h.keep.output,Nat.le_trans h.keep.size (by simp),fun k' hk' hm'=>?_⟩,base:=Nat.le_trans h.base (by simp),defers:=h.defers,heap:=fun j=>?_,inj:=?_,mine:=?_,fF:=h.fF,pin:=fun j hj=>?_,env:=Rps.kill hlat _ h.env }
 ·rw [hother]
  ·exact h.keep.block k' hk' hm'
  ·rintro rfl
   rcases h.mine i _ _ hp rfl with h7 | h7
   ·omega
   ·exact hm' h7
 ·by_cases hj:j=i
  ·subst hj
   have:((s.hp.set j (.arr T k pf rows')).map (Ob.kill j)).getD j .dead = .arr T k pf (if pf then rows' else rows'.map (AV.kills j)):=by
    simp [List.getD_eq_getElem?_getD,hil,Ob.kill]
   show HRo _ _ _ (((s.hp.set j (.arr T k pf rows')).map (Ob.kill j)).getD j .dead) _
   rw [this,Pl.put_same]
   refine ⟨rfl,by cases pf <;> simp,vss,rest,setRow_heap_same _ h1,hlat.pf hr,?_,hl,by cases pf <;> simpa using hc,h6⟩
   cases pf with
   | true=>exact hs
   | false =>
    intro r hr1
    obtain ⟨r',hr2,rfl⟩:=List.mem_map.1 hr1
    rw [kills_length]
    exact hs r' hr2
  ·have:((s.hp.set i (.arr T k pf rows')).map (Ob.kill i)).getD j .dead=Ob.kill i (s.hp.getD j .dead):=by
    simp only [List.getD_eq_getElem?_getD,List.getElem?_map,List.getElem?_set_ne (Ne.symm hj)]
    cases s.hp[j]? <;> rfl
   show HRo _ _ _ (((s.hp.set i (.arr T k pf rows')).map (Ob.kill i)).getD j .dead) _
   rw [this,Pl.put_ne _ _ hj]
   have hj':=h.heap j
   cases hob:s.hp.getD j .dead with
   | dead=>rw [hob] at hj';exact hj'
   | map clock births rs=>rw [hob] at hj';exact HRo.restM hlat hj' (fun q b' hq hb'=>hother b' (by rintro rfl;exact hj (h.inj j i _ _ _ hq hp hb' rfl)))
   | iter m since seen stepped=>rw [hob] at hj';exact HRo.restI (fun v hv=>Rp.kill hlat m hv) hj' (fun q b' hq hb'=>hother b' (by rintro rfl;exact hj (h.inj j i _ _ _ hq hp hb' rfl)))
   | arr T' k' pf' rs =>
    rw [hob] at hj'
    match hpj:ρ j,hj' with
    | some .nil,hj'=>simp only [HRo] at hj';subst hj';cases pf' <;> rfl
    | some (.blk b' k' cap' len'),hj' =>
     obtain ⟨hk0,h0,vss',rest',h1',h2',h3',h4',h5',h6'⟩:=hj'
     have hne:b'≠b:=by
      rintro rfl
      exact hj (h.inj j i _ _ _ hpj hp rfl rfl)
     refine ⟨hk0,by cases pf' <;> simpa using h0,vss',rest',(hother b' hne).trans h1',hlat.pf h2',?_,h4',by cases pf' <;> simpa using h5',h6'⟩
     cases pf' with
     | true=>exact h3'
     | false =>
      intro r hr
      obtain ⟨r',hr',rfl⟩:=List.mem_map.1 hr
      rw [kills_length]
      exact h3' r' hr'
    | some (.mapb b),hj'=>cases hj'
    | none,hj'=>cases hj'
 ·intro j j' p q b' hj hj' hp1 hq
  by_cases hid:j=i
  ·by_cases hjd:j'=i
   ·rw [hid,hjd]
   ·subst hid
    rw [Pl.put_same] at hj
    cases hj
    rw [Pl.put_ne _ _ hjd] at hj'
    exact h.inj j j' _ _ _ hp hj' hp1 hq
  ·rw [Pl.put_ne _ _ hid] at hj
   by_cases hjd:j'=i
   ·subst hjd
    rw [Pl.put_same] at hj'
    cases hj'
    exact h.inj j j' _ _ _ hj hp hp1 hq
   ·rw [Pl.put_ne _ _ hjd] at hj'
    exact h.inj j j' p q b' hj hj' hp1 hq
 ·intro j p b' hj hp1
  by_cases hid:j=i
  ·subst hid
   rw [Pl.put_same] at hj
   cases hj
   exact h.mine j _ _ hp hp1
  ·rw [Pl.put_ne _ _ hid] at hj
   exact h.mine j p b' hj hp1
 ·by_cases hid:j=i
  ·subst hid
   exact absurd hj hpin
  ·rw [Pl.put_ne _ _ hid]
   exact h.pin j hj
inductive TD where
 | no | bool | int (k:IntKind) | str | slice (e:TypeId) | struct (fs:List (Nat × TypeId)) | ptr (e:TypeId) | arr (n:Nat) (e:TypeId) | map (k v:TypeId) | func | iface | tuple
 deriving Inhabited
structure TI where
 d:TD
 size:Nat
 bytes:Nat
 hz:Bool
 zero:List AV
def cst1:Value→AV
 | .int k n => .int k n
 | .bool b => .bool b
 | .string s => .str s
 | .slice none 0 0 => .nils
 | .pointer none => .nilp
 | .nilIface => .nilif
 | .nilFunc => .nilfn
 | .map none => .nilmp
 | _ => .any
def cstV:Value→AV
 | .agg cs => .agg (cs.toList.map cst1)
 | v=>cst1 v
def tdOf:Option TypeDesc→TD
 | some .bool => .bool
 | some (.int k) => .int k
 | some .string => .str
 | some (.slice e) => .slice e
 | some (.struct fs) => .struct (fs.toList.map fun f=>(f.offset,f.type))
 | some (.pointer e) => .ptr e
 | some (.array n e) => .arr n e
 | some (.map k v) => .map k v
 | some (.func _ _ _) => .func
 | some (.interface _) => .iface
 | some (.tuple _) => .tuple
 | _ => .no
def tyOf (P:Program) (t:TypeId):TI :=
 match P.info? t with
 | some i=>⟨tdOf (P.underlying t),i.size,i.bytes,i.zero.isSome,(i.zero.map fun z=>z.cells.toList.map cst1).getD []⟩
 | none=>⟨.no,0,0,false,[]⟩
theorem Rp_cst1 (w:World) (A:Nat→Prop) (ρ:Pl) (v:Value):Rp w A ρ (cst1 v) v:=by
 unfold cst1
 split <;> simp only [Rp]
theorem Rps_cst1 (w:World) (A:Nat→Prop) (ρ:Pl):∀ l:List Value,Rps w A ρ (l.map cst1) l
 | []=>by simp only [List.map_nil,Rps]
 | v::l=>by simp only [List.map_cons,Rps];exact ⟨v,l,rfl,Rp_cst1 w A ρ v,Rps_cst1 w A ρ l⟩
theorem Rp_cstV (w:World) (A:Nat→Prop) (ρ:Pl) (v:Value):Rp w A ρ (cstV v) v:=by
 unfold cstV
 split
 ·rename_i cs
  simp only [Rp]
  exact ⟨cs.toList,by simp,Rps_cst1 w A ρ _⟩
 ·exact Rp_cst1 w A ρ v
section types
variable {P:Program} {t:TypeId}
theorem tyOf_info (h:(tyOf P t).d ≠ .no):∃ i,P.info? t=some i∧(tyOf P t)=⟨tdOf (P.underlying t),i.size,i.bytes,i.zero.isSome,(i.zero.map fun z=>z.cells.toList.map cst1).getD []⟩:=by
 unfold tyOf at h ⊢
 cases hi:P.info? t with
 | none=>simp [hi] at h
 | some i=>exact ⟨i,rfl,rfl⟩
theorem tyOf_und {d:TD} (h:(tyOf P t).d=d) (hd:d ≠ .no):tdOf (P.underlying t)=d:=by
 obtain ⟨i,_,h2⟩:=tyOf_info (h ▸ hd)
 rw [h2] at h
 exact h
theorem tyOf_slice {e:TypeId} (h:(tyOf P t).d = .slice e):P.underlying t=some (.slice e):=by
 have:=tyOf_und h (by simp)
 unfold tdOf at this
 split at this <;> simp_all
theorem tyOf_int {k:IntKind} (h:(tyOf P t).d = .int k):P.underlying t=some (.int k):=by
 have:=tyOf_und h (by simp)
 unfold tdOf at this
 split at this <;> simp_all
theorem tyOf_bool (h:(tyOf P t).d = .bool):P.underlying t=some .bool:=by
 have:=tyOf_und h (by simp)
 unfold tdOf at this
 split at this <;> simp_all
theorem tyOf_str (h:(tyOf P t).d = .str):P.underlying t=some .string:=by
 have:=tyOf_und h (by simp)
 unfold tdOf at this
 split at this <;> simp_all
theorem tyOf_ptr {e:TypeId} (h:(tyOf P t).d = .ptr e):P.underlying t=some (.pointer e):=by
 have:=tyOf_und h (by simp)
 unfold tdOf at this
 split at this <;> simp_all
theorem tyOf_arr {n:Nat} {e:TypeId} (h:(tyOf P t).d = .arr n e):P.underlying t=some (.array n e):=by
 have:=tyOf_und h (by simp)
 unfold tdOf at this
 split at this <;> simp_all
theorem tyOf_map {k v:TypeId} (h:(tyOf P t).d = .map k v):P.underlying t=some (.map k v):=by
 have:=tyOf_und h (by simp)
 unfold tdOf at this
 split at this <;> simp_all
theorem tyOf_struct {fs:List (Nat × TypeId)} (h:(tyOf P t).d = .struct fs):∃ fields:Array Field,P.underlying t=some (.struct fields)∧fields.toList.map (fun f=>(f.offset,f.type))=fs:=by
 have:=tyOf_und h (by simp)
 unfold tdOf at this
 split at this <;> simp_all
theorem tyOf_size (h:(tyOf P t).d ≠ .no) (w:World):(sizeOf t).run P w = .ok (tyOf P t).size w:=by
 obtain ⟨i,h1,h2⟩:=tyOf_info h
 rw [h2]
 simp [sizeOf,typeInfo,h1]
theorem tyOf_zero (h:(tyOf P t).d ≠ .no) (hz:(tyOf P t).hz=true):∃ i z,P.info? t=some i∧i.zero=some z∧i.size=(tyOf P t).size∧i.bytes=(tyOf P t).bytes∧(tyOf P t).zero=z.cells.toList.map cst1:=by
 obtain ⟨i,h1,h2⟩:=tyOf_info h
 rw [h2] at hz ⊢
 obtain ⟨z,hz'⟩:=Option.isSome_iff_exists.1 hz
 exact ⟨i,z,h1,hz',rfl,rfl,by simp [hz']⟩
end types
def ev (e:List AV):Operand→AV
 | .tmp t=>e.getD t .any
 | .const v=>cstV v
 | .global g => .gl g
 | .func f => .fn (.func f) [] []
def cellsOf:AV→List AV
 | .agg cs=>cs
 | x=>[x]
def AV.one:AV→Bool
 | .any | .und | .agg _ | .tup _=>false
 | _=>true
def storable:AV→Bool
 | .agg cs=>cs.all AV.one
 | x=>x.one
def TI.isAgg (ti:TI):Bool:=match ti.d with | .struct _ | .arr _ _=>true | _=>false
def ofCells (ti:TI) (cs:List AV):AV:=if ti.isAgg then .agg cs else cs.headD .any
theorem ev_sound {w:World} {A:Nat→Prop} {ρ:Pl} {e:List AV} {a:Act} (h:Rps w A ρ e a.tmps.toList) (x:Operand):Rp w A ρ (ev e x) (a.eval x):=by
 cases x with
 | tmp t =>
  simp only [ev,Act.eval,List.getD_eq_getElem?_getD]
  cases ht:e[t]? with
  | none=>simp only [Option.getD_none,Rp]
  | some y =>
   obtain ⟨v,hv,hr⟩:=h.get ht
   have:a.tmps[t]?=some v:=by simpa using hv
   simpa [this] using hr
 | const v=>exact Rp_cstV _ _ _ v
 | global g=>simp only [ev,Act.eval,Rp]
 | func f=>simp only [ev,Act.eval,Rp,Rps];exact ⟨[],[],rfl,rfl,rfl⟩
theorem one_cell {w:World} {A:Nat→Prop} {ρ:Pl} {x:AV} {v:Value} (h:Rp w A ρ x v) (h1:x.one=true):v.oneCell'=true:=by
 cases x <;> simp only [AV.one,Bool.false_eq_true] at h1 <;> simp only [Rp] at h
 case sl rows=>obtain ⟨ad,cap,rfl,_⟩:=h;rfl
 case ia row off=>obtain ⟨b,o,vs,rfl,_⟩:=h;rfl
 case sref i off n=>rcases h with ⟨_,_,_,rfl⟩ | ⟨b,s,cap,len,x,_,_,rfl,_⟩ <;> rfl
 case ptr i j off=>obtain ⟨b,s,cap,len,_,rfl⟩:=h;rfl
 case fn f fs cs=>obtain ⟨us,vs,rfl,_⟩:=h;rfl
 case ifc t x=>obtain ⟨y,rfl,_⟩:=h;rfl
 case mp i=>obtain ⟨b,_,rfl⟩:=h;rfl
 case it i=>obtain ⟨b,_,rfl⟩:=h;rfl
 case md c bs rows=>obtain ⟨b,ents,rfl,_⟩:=h;rfl
 all_goals (subst h;rfl)
theorem one_cells {w:World} {A:Nat→Prop} {ρ:Pl}:∀ {l:List AV} {vs:List Value},Rps w A ρ l vs→l.all AV.one=true→∀ v∈vs,v.oneCell'=true
 | [],_,h,_,v,hv=>by simp only [Rps] at h;subst h;cases hv
 | x::xs,_,h,h1,v,hv=>by
  simp only [Rps] at h
  obtain ⟨u,us,rfl,h2,h3⟩:=h
  simp only [List.all_cons,Bool.and_eq_true] at h1
  rcases List.mem_cons.1 hv with rfl | hv
  ·exact one_cell h2 h1.1
  ·exact one_cells h3 h1.2 v hv
theorem cellsOf_sound {w:World} {A:Nat→Prop} {ρ:Pl} {x:AV} {v:Value} (h:Rp w A ρ x v) (h1:storable x=true) :
  Rps w A ρ (cellsOf x) v.cells.toList∧∀ u∈v.cells.toList,u.oneCell'=true:=by
 by_cases hx:∃ cs,x = .agg cs
 ·obtain ⟨cs,rfl⟩:=hx
  simp only [Rp] at h
  obtain ⟨vs,rfl,h2⟩:=h
  simp only [storable] at h1
  exact ⟨by simpa [Value.cells,cellsOf] using h2,by simpa [Value.cells] using one_cells h2 h1⟩
 ·have h3:storable x=x.one:=by cases x <;> simp_all [storable]
  have h4:cellsOf x=[x]:=by cases x <;> simp_all [cellsOf]
  rw [h3] at h1
  have h5:=one_cell h h1
  have h6:v.cells=#[v]:=by cases v <;> simp_all [Value.cells,Value.oneCell']
  rw [h4,h6]
  refine ⟨by simp only [Rps];exact ⟨v,[],rfl,h,rfl⟩,by simpa using h5⟩
def St.ret (s:St) (d:Option Tmp) (x:AV):St:=⟨(match d with | some d=>s.env.set d x | none=>s.env),s.hp⟩
def St.seth (s:St) (i:Nat) (o:Ob):St:=⟨s.env,s.hp.set i o⟩
def VOk (P:Program) (fr:Fr) (a:Act) (w:World) (o:Oper) (x:AV) (s':St):Prop :=
 ∃ v w' ρ',(execOp a.eval o).run P w = .ok (.value v) w'∧Rep fr ρ' s' a w'∧Rp w' (Av fr.F ρ') ρ' x v
def Ends (fr:Fr) (K:St→Prop) (a:Act) (w:World):Prop:=∃ s ρ,K s∧Rep fr ρ s a w
theorem VOk.wp {P:Program} {fr:Fr} {a:Act} {w:World} {o:Oper} {x:AV} {s':St} {K:St→Prop} {Q:Exit→Act→World→Prop} (h:VOk P fr a w o x s') (hk:K (s'.ret o.dst x)):o.wp P a w (Ends fr K) Q:=by
 obtain ⟨v,w',ρ',h1,h2,h3⟩:=h
 unfold Oper.wp
 rw [h1]
 exact ⟨_,ρ',hk,h2.put o.dst h3⟩
section
variable {P:Program} {fr:Fr} {ρ:Pl} {s:St} {a:Act} {w:World} {o:Oper}
theorem ok_move (h:Rep fr ρ s a w) (x:Operand) (ho:o.op = .move x∨o.op = .assign x):VOk P fr a w o (ev s.env x) s:=by
 refine ⟨a.eval x,w,ρ,?_,h,ev_sound h.env x⟩
 unfold execOp
 rcases ho with ho | ho <;> simp only [ho] <;> rfl
def pickW (c x y:AV) (K:AV→Prop):Prop :=
 match c with
 | .bool t=>match x,y with
  | .bool p,.bool q=>K (.bool (bif t then p else q))
  | x,y=>(t=true→K x)∧(t=false→K y)
 | _=>False
theorem ok_pick (h:Rep fr ρ s a w) (c x y:Operand) (ho:o.op = .pick c x y) {K:AV→Prop} (hk:pickW (ev s.env c) (ev s.env x) (ev s.env y) K):∃ z,K z∧VOk P fr a w o z s:=by
 have hc:=ev_sound h.env c
 have hx:=ev_sound h.env x
 have hy:=ev_sound h.env y
 generalize ev s.env c=c' at hc hk
 generalize ev s.env x=x' at hx hk
 generalize ev s.env y=y' at hy hk
 unfold pickW at hk
 split at hk
 ·rename_i t
  simp only [Rp] at hc
  have hrun:(execOp a.eval o).run P w = .ok (.value (if t then a.eval x else a.eval y)) w:=by
   unfold execOp
   simp only [ho,hc,asBool]
   cases t <;> rfl
  split at hk
  ·rename_i p q
   simp only [Rp] at hx hy
   refine ⟨_,hk,_,w,ρ,hrun,h,?_⟩
   cases t <;> simp [Rp,hx,hy]
  ·cases t
   ·exact ⟨_,hk.2 rfl,_,w,ρ,hrun,h,hy⟩
   ·exact ⟨_,hk.1 rfl,_,w,ρ,hrun,h,hx⟩
 ·exact hk.elim
def dead (s:St) (d:Nat):Prop:=s.hp[d]?=some .dead
theorem ok_new (h:Rep fr ρ s a w) {d:Nat} (hd:dead s d) {T:TypeId} {v:Value} {cs:List AV} (hcs:Rps w (Av fr.F ρ) ρ cs v.cells.toList) :
  ∃ w' ρ',(Instr.box T v).run P w = .ok (.pointer (some ⟨w.heap.size,0,none⟩)) w'∧Rep fr ρ' (s.seth d (.arr T cs.length false [cs])) a w'∧Rp w' (Av fr.F ρ') ρ' (.ptr d 0 0) (.pointer (some ⟨w.heap.size,0,none⟩)):=by
 have h1:=h.alloc hd (T:=T) (pf:=false) (rows:=[cs]) (vss:=[v.cells.toList]) (rest:=[]) (k:=cs.length) (cap:=1)
  (by simp only [RpR];exact ⟨_,[],rfl,hcs,rfl⟩) (by intro r hr;simp at hr;rw [hr]) (by simp [← hcs.length]) (by simp) (by simp [maxLen])
 refine ⟨_,_,?_,h1,?_⟩
 ·simp [Instr.box,newVar,newRow]
 ·simp only [Rp,Pl.put_same]
  exact ⟨w.heap.size,cs.length,1,1,rfl,by simp⟩
theorem ok_box (h:Rep fr ρ s a w) {d:Nat} (hdst:o.dst=some d) (hd:dead s d) {T:TypeId} {x:Operand} (ho:o.op = .box T x) (hs:storable (ev s.env x)=true) :
  VOk P fr a w o (.ptr d 0 0) (s.seth d (.arr T (cellsOf (ev s.env x)).length false [cellsOf (ev s.env x)])):=by
 obtain ⟨w',ρ',h1,h2,h3⟩:=ok_new (P:=P) h hd (T:=T) (cellsOf_sound (ev_sound h.env x) hs).1
 refine ⟨_,w',ρ',?_,h2,h3⟩
 unfold execOp
 simp only [ho]
 simp [h1]
theorem ok_alloc (h:Rep fr ρ s a w) {d:Nat} (hdst:o.dst=some d) (hd:dead s d) {T:TypeId} (ho:o.op = .alloc T) (ht:(tyOf P T).d ≠ .no) (hz:(tyOf P T).hz=true) :
  VOk P fr a w o (.ptr d 0 0) (s.seth d (.arr T (tyOf P T).zero.length false [(tyOf P T).zero])):=by
 obtain ⟨i,z,hi,hz',_,_,h5⟩:=tyOf_zero ht hz
 obtain ⟨w',ρ',h1,h2,h3⟩:=ok_new (P:=P) h hd (T:=T) (v:=z) (Rps_cst1 w (Av fr.F ρ) ρ z.cells.toList)
 rw [← h5] at h2
 refine ⟨_,w',ρ',?_,h2,h3⟩
 unfold execOp
 simp only [ho]
 simp only [Instr.box,newVar,newRow] at h1
 simp [Instr.alloc,zeroValue,typeInfo,hi,hz',newVar,newRow] at h1 ⊢
 exact h1
def loadW (ti:TI) (x:AV) (hp:List Ob) (K:AV→Prop):Prop :=
 match x with
 | .ia row off=>off+ti.size≤row.length∧K (ofCells ti ((row.drop off).take ti.size))
 | .ptr i j off=>match hp.getD i .dead with
  | .arr _ _ _ rows=>j<rows.length∧off+ti.size≤(rows.getD j []).length∧K (ofCells ti (((rows.getD j []).drop off).take ti.size))
  | _=>False
 | _=>False
theorem run_loadVar_cells {t:TypeId} (ht:(tyOf P t).d ≠ .no) (h1:(tyOf P t).isAgg=true∨(tyOf P t).size=1) {b o:Nat} {vs:List Value} (hl:vs.length=(tyOf P t).size) (hc:CellsAt w b o vs) :
  (loadVar t ⟨b,o,none⟩).run P w = .ok (if (tyOf P t).isAgg then .agg vs.toArray else vs.headD undef) w:=by
 have hadd:∀ j,(⟨b,o,none⟩:Addr).add j=⟨b,o+j,none⟩:=by intro j;unfold Addr.add;split <;> simp_all
 have hcells:=run_loadCells_list (P:=P) w ⟨b,o,none⟩ vs (fun j v hj=>by rw [hadd];exact hc j v hj)
 have hund:=tyOf_und (P:=P) (t:=t) rfl ht
 have hagg:(isAgg t).run P w = .ok ((tyOf P t).isAgg) w:=by
  unfold isAgg TI.isAgg
  rw [← hund]
  unfold tdOf
  cases hu:P.underlying t with
  | none=>rw [hu] at hund;simp [tdOf] at hund;exact absurd hund.symm ht
  | some d=>simp [run_underlying hu];cases d <;> rfl
 unfold loadVar
 simp only [Sem.run_bind,hagg,Result.andThen_ok]
 cases hA:(tyOf P t).isAgg with
 | true =>
  simp only [if_true,Sem.run_bind,tyOf_size ht,Result.andThen_ok,← hl,hcells,Sem.run_pure]
 | false =>
  have hs1:vs.length=1:=by rw [hA] at h1;simp at h1;rw [hl];exact h1
  match vs,hs1 with
  | [v],_ =>
   have:=hc 0 v rfl
   simp only [Nat.add_zero] at this
   simp [this]
theorem ofCells_sound {A:Nat→Prop} {ρ:Pl} {ti:TI} {cs:List AV} {vs:List Value} (h:Rps w A ρ cs vs) (h1:ti.isAgg=true∨cs.length=1):Rp w A ρ (ofCells ti cs) (if ti.isAgg then .agg vs.toArray else vs.headD undef):=by
 unfold ofCells
 cases hA:ti.isAgg with
 | true=>simp only [if_true,Rp];exact ⟨vs,rfl,h⟩
 | false =>
  rw [hA] at h1
  simp at h1
  match cs,h1,h with
  | [c],_,h =>
   simp only [Rps] at h
   obtain ⟨v,us,rfl,h2,rfl⟩:=h
   simpa using h2
theorem load_core (h:Rep fr ρ s a w) {t:TypeId} {x':AV} {v0:Value} (hx:Rp w (Av fr.F ρ) ρ x' v0) (ht:(tyOf P t).d ≠ .no) (h1:(tyOf P t).isAgg=true∨(tyOf P t).size=1) {K:AV→Prop} (hk:loadW (tyOf P t) x' s.hp K) :
  ∃ z b q v,K z∧v0 = .pointer (some ⟨b,q,none⟩)∧(loadVar t ⟨b,q,none⟩).run P w = .ok v w∧Rp w (Av fr.F ρ) ρ z v:=by
 have fin:∀ (b o':Nat) (cs:List AV) (vs:List Value),K (ofCells (tyOf P t) cs)→v0 = .pointer (some ⟨b,o',none⟩)→Rps w (Av fr.F ρ) ρ cs vs→cs.length=(tyOf P t).size→CellsAt w b o' vs →
   ∃ z b q v,K z∧v0 = .pointer (some ⟨b,q,none⟩)∧(loadVar t ⟨b,q,none⟩).run P w = .ok v w∧Rp w (Av fr.F ρ) ρ z v:=by
  intro b o' cs vs hz he hr hl hc
  exact ⟨_,b,o',_,hz,he,run_loadVar_cells (P:=P) (w:=w) ht h1 (b:=b) (o:=o') (vs:=vs) (hr.length.trans hl) hc,ofCells_sound hr (h1.imp id fun h=>hl.trans h)⟩
 unfold loadW at hk
 split at hk
 ·rename_i row off
  simp only [Rp] at hx
  obtain ⟨b,o',vs,he,hA,hb,hc,hr⟩:=hx
  refine fin b (o'+off) _ ((vs.drop off).take (tyOf P t).size) hk.2 he (((hr.pure' ρ).drop off).take _) (by simp;omega) ?_
  intro j u hj
  rw [List.getElem?_take] at hj
  split at hj
  ·rw [List.getElem?_drop] at hj
   have:=hc _ u hj
   rwa [← Nat.add_assoc] at this
  ·cases hj
 ·rename_i i j off
  simp only [Rp] at hx
  obtain ⟨b,s',cap,len,hp,he⟩:=hx
  split at hk
  ·rename_i T k0 pf rows hob
   have ho':=h.heap i
   rw [hob,hp] at ho'
   obtain ⟨_,h0,hh⟩:=ho'
   obtain ⟨vss,hr,hlens,hcells⟩:=hh.cells
   obtain ⟨hj,hoff,hk⟩:=hk
   obtain ⟨v,hv,hr2⟩:=hr.get (show rows[j]?=some (rows.getD j []) by simp [List.getD_eq_getElem?_getD,hj])
   have hr3:Rps w (Av fr.F ρ) ρ (rows.getD j []) v:=by
    cases pf with
    | true=>exact hr2.pure' ρ
    | false=>exact hr2
   refine fin b (j*s'+off) _ ((v.drop off).take (tyOf P t).size) hk he ((hr3.drop off).take _) (by rw [List.length_take,List.length_drop];omega) ?_
   intro q u hq
   rw [List.getElem?_take] at hq
   split at hq
   ·rw [List.getElem?_drop] at hq
    have:=hcells _ u (flatten_at hlens hv hq)
    rw [Nat.zero_add] at this
    rwa [Nat.add_assoc]
   ·cases hq
  ·exact hk.elim
 ·exact hk.elim
theorem ok_load (h:Rep fr ρ s a w) {t:TypeId} {x:Operand} (ho:o.op = .load t x) (ht:(tyOf P t).d ≠ .no) (h1:(tyOf P t).isAgg=true∨(tyOf P t).size=1) {K:AV→Prop} (hk:loadW (tyOf P t) (ev s.env x) s.hp K) :
  ∃ z,K z∧VOk P fr a w o z s:=by
 obtain ⟨z,b,q,v,hz,he,hrun,hr⟩:=load_core h (ev_sound h.env x) ht h1 hk
 refine ⟨z,hz,v,w,ρ,?_,h,hr⟩
 unfold execOp
 simp only [ho,he,Instr.loadAt,Instr.sureAddr]
 simp [hrun]
end
section
variable {P:Program} {fr:Fr} {ρ:Pl} {s:St} {a:Act} {w:World} {o:Oper}
def overlay (row:List AV) (off:Nat) (cs:List AV):List AV:=row.take off++cs++row.drop (off+cs.length)
def storeW (ti:TI) (x y:AV) (s:St) (K:St→Prop):Prop :=
 match x with
 | .ptr i j off=>match s.hp.getD i .dead with
  | .arr T k pf rows=>storable y=true∧(cellsOf y).length=ti.size∧(pf=true→AV.pures (cellsOf y)=true)∧j<rows.length∧off+ti.size≤(rows.getD j []).length ∧
    K (s.seth i (.arr T k pf (rows.set j (overlay (rows.getD j []) off (cellsOf y)))))
  | _=>False
 | _=>False
theorem getD_some {α:Type} {l:List α} {i:Nat} {d:α} (h:i<l.length):l[i]?=some (l.getD i d):=by
 simp [List.getD_eq_getElem?_getD,h]
theorem getD_arr {hp:List Ob} {i:Nat} {T:TypeId} {k:Nat} {pf:Bool} {rows:List (List AV)} (h:hp.getD i .dead = .arr T k pf rows):hp[i]?=some (.arr T k pf rows):=by
 rw [List.getD_eq_getElem?_getD] at h
 cases hi:hp[i]? with
 | none=>rw [hi] at h;cases h
 | some o=>rw [hi] at h;exact congrArg some h
theorem flatten_set {s:Nat}:∀ {l:List (List Value)} {j off:Nat} {us:List Value} {r:List Value},(∀ r∈l,r.length=s)→l[j]?=some r→off+us.length≤s →
  (l.set j (r.take off++us++r.drop (off+us.length))).flatten=l.flatten.take (j*s+off)++us++l.flatten.drop (j*s+off+us.length)
 | [],j,off,us,r,h,hj,ho=>by simp at hj
 | q::l,0,off,us,r,h,hj,ho=>by
  simp at hj
  subst hj
  have hq:=h q List.mem_cons_self
  simp only [List.set_cons_zero,List.flatten_cons,Nat.zero_mul,Nat.zero_add]
  rw [List.take_append_of_le_length (by omega),List.drop_append_of_le_length (by omega)]
  simp [List.append_assoc]
 | q::l,j+1,off,us,r,h,hj,ho=>by
  have hq:=h q List.mem_cons_self
  simp only [List.set_cons_succ,List.flatten_cons]
  rw [flatten_set (fun r' h'=>h r' (List.mem_cons_of_mem _ h')) (by simpa using hj) ho]
  have e:(j+1)*s+off=q.length+(j*s+off):=by rw [hq,Nat.add_mul,Nat.one_mul];omega
  rw [e,Nat.add_assoc q.length,List.take_length_add_append,List.drop_length_add_append]
  simp [List.append_assoc]
theorem ok_store (h:Rep fr ρ s a w) {t:TypeId} {x y:Operand} (ho:o.op = .store t x y) (hd:o.dst=none) (ht:(tyOf P t).d ≠ .no) {K:St→Prop} (hk:storeW (tyOf P t) (ev s.env x) (ev s.env y) s K) {Q:Exit→Act→World→Prop} :
  o.wp P a w (Ends fr K) Q:=by
 have hx:=ev_sound h.env x
 have hy:=ev_sound h.env y
 generalize ev s.env x=x' at hx hk
 generalize ev s.env y=y' at hy hk
 unfold storeW at hk
 split at hk
 ·rename_i i j off
  split at hk
  ·rename_i T k pf rows hob
   obtain ⟨hst,hlen,hpf,hj,hoff,hk⟩:=hk
   have hob':=getD_arr hob
   obtain ⟨hcs,hone⟩:=cellsOf_sound hy hst
   simp only [Rp] at hx
   obtain ⟨b,s',cap,len,hp,he⟩:=hx
   have ho':=h.heap i
   rw [hob,hp] at ho'
   obtain ⟨hk0,h0,vss,rest,hb,hr,hal,hl,hc,hm⟩:=ho'
   subst hk0
   subst h0
   obtain ⟨v,hv,hr2⟩:=hr.get (getD_some hj)
   have hvl:=hr2.length
   have hlens:=hr.lens hal
   have hrow:(rows.getD j []).length=s':=hal _ (by simp [List.getD_eq_getElem?_getD,hj])
   have hul:(a.eval y).cells.toList.length=(tyOf P t).size:=by rw [hcs.length,hlen]
   obtain ⟨us,hus0⟩:∃ us,us=(a.eval y).cells.toList:=⟨_,rfl⟩
   rw [← hus0] at hcs hone hul
   have hus:us.length=(tyOf P t).size:=hul
   have hcsP:Rps w (Av fr.F ρ) (Pf pf ρ) (cellsOf y') us:=by
    cases pf with
    | true=>exact Rps.pure noPl _ (hpf rfl) hcs
    | false=>exact hcs
   have hnew:Rps w (Av fr.F ρ) (Pf pf ρ) (overlay (rows.getD j []) off (cellsOf y')) (v.take off++us++v.drop (off+us.length)):=by
    unfold overlay
    rw [hus,← hlen]
    exact ((hr2.take off).append hcsP).append (hr2.drop _)
   have hflat:=flatten_set (us:=us) hlens hv (show off+us.length≤s' by omega)
   have hlenset:(vss.set j (v.take off++us++v.drop (off+us.length))).flatten.length=vss.flatten.length:=by
    have hv':=hvl
    rw [flatten_length (s:=s'),flatten_length hlens,List.length_set]
    intro r hr'
    rcases List.mem_or_eq_of_mem_set hr' with h5 | h5
    ·exact hlens r h5
    ·subst h5;simp;omega
   have hjl:j<vss.length:=(List.getElem?_eq_some_iff.1 hv).1
   have hmul:j*s'+s'≤vss.length*s':=by
    calc j*s'+s'=(j+1)*s':=by rw [Nat.add_mul,Nat.one_mul]
     _≤vss.length*s':=Nat.mul_le_mul_right _ hjl
   have hfl:vss.flatten.length=vss.length*s':=flatten_length hlens
   have hres:=h.setObj hob' hp (rows':=rows.set j (overlay (rows.getD j []) off (cellsOf y'))) (vss:=vss.set j (v.take off++us++v.drop (off+us.length))) (rest:=rest) (hr.set j hnew)
    (by
     intro r hr'
     rcases List.mem_or_eq_of_mem_set hr' with h5 | h5
     ·exact hal r h5
     ·subst h5
      have e1:(overlay (rows.getD j []) off (cellsOf y')).length=off+us.length+(s'-(off+us.length)):=by
       unfold overlay
       rw [List.length_append,List.length_append,List.length_take,List.length_drop,hrow,hlen,← hus]
       omega
      omega)
    (by rw [List.length_append,hlenset,← List.length_append];exact hl) (by simp)
   have hrun:(execOp a.eval o).run P w = .ok .skip (w.setRow b ((vss.set j (v.take off++us++v.drop (off+us.length))).flatten++rest).toArray):=by
    have hadd:∀ q,(⟨b,j*s'+off,none⟩:Addr).add q=⟨b,j*s'+off+q,none⟩:=by intro q;unfold Addr.add;split <;> simp_all
    have hsc:=run_storeCells_at P b (j*s'+off) T us 0 (vss.flatten++rest).toArray w hb (by rw [List.size_toArray,List.length_append,hfl];omega) hone
    have hsz:(a.eval y).cells.size=(tyOf P t).size:=by rw [← hul,hus0];simp
    unfold execOp
    simp only [ho,he,Instr.storeAt,Instr.sureAddr,storeVar]
    simp only [Sem.run_bind,Sem.run_pure,Result.andThen_ok,tyOf_size ht,hsz,ne_eq,not_true_eq_false,if_false]
    rw [← hus0,hsc]
    simp only [Nat.add_zero,List.toList_toArray,Result.andThen_ok]
    congr 3
    rw [hflat,List.take_append_of_le_length (by rw [hfl];omega),List.drop_append_of_le_length (by rw [hfl];omega)]
    simp [List.append_assoc]
   unfold Oper.wp
   rw [hrun]
   show Ends fr K (a.put o.dst undef) _
   rw [hd]
   exact ⟨_,ρ,hk,hres⟩
  ·exact hk.elim
 ·exact hk.elim
def fieldAddrW (P:Program) (ti:TI) (x:AV) (f:Nat) (K:AV→Prop):Prop :=
 match ti.d with
 | .struct fs=>f<fs.length∧(tyOf P (fs.getD f (0,0)).2).d ≠ .no∧(tyOf P (fs.getD f (0,0)).2).size≠0∧(match x with
  | .ia row off=>K (.ia row (off+(fs.getD f (0,0)).1))
  | .ptr i j off=>K (.ptr i j (off+(fs.getD f (0,0)).1))
  | _=>False)
 | _=>False
theorem field_of {fields:Array Field} {fs:List (Nat × TypeId)} (h:fields.toList.map (fun f=>(f.offset,f.type))=fs) {f:Nat} (hf:f<fs.length):∃ fd:Field,fields[f]?=some fd∧fd.offset=(fs.getD f (0,0)).1∧fd.type=(fs.getD f (0,0)).2:=by
 subst h
 have hf':f<fields.size:=by simpa using hf
 refine ⟨fields[f],by simp [hf'],?_,?_⟩ <;> simp [List.getD_eq_getElem?_getD,hf']
theorem ok_fieldAddr (h:Rep fr ρ s a w) {t:TypeId} {x:Operand} {f:Nat} (ho:o.op = .fieldAddr t x f) {K:AV→Prop} (hk:fieldAddrW P (tyOf P t) (ev s.env x) f K):∃ z,K z∧VOk P fr a w o z s:=by
 have hx:=ev_sound h.env x
 generalize ev s.env x=x' at hx hk
 unfold fieldAddrW at hk
 split at hk
 ·rename_i fs hfs
  obtain ⟨hf,hty,hsz,hk⟩:=hk
  obtain ⟨fields,hu,hfl⟩:=tyOf_struct hfs
  obtain ⟨fd,hfd,hoff,hfty⟩:=field_of hfl hf
  have hrun:∀ b q,a.eval x = .pointer (some ⟨b,q,none⟩)→(execOp a.eval o).run P w = .ok (.value (.pointer (some ⟨b,q+(fs.getD f (0,0)).1,none⟩))) w:=by
   intro b q he
   have hadd:∀ n,(⟨b,q,none⟩:Addr).add n=⟨b,q+n,none⟩:=by intro n;unfold Addr.add;split <;> simp_all
   unfold execOp
   simp only [ho,he,Instr.fieldAt,Instr.sureAddr]
   have hsz':(sizeOf fd.type).run P w = .ok (tyOf P (fs.getD f (0,0)).2).size w:=by rw [hfty];exact tyOf_size hty w
   simp only [Sem.run_bind,run_underlying hu,Result.andThen_ok,Sem.run_pure,hfd,fieldPlace,hsz',hsz,if_false,hadd,hoff]
  split at hk
  ·rename_i row off
   simp only [Rp] at hx
   obtain ⟨b,q,vs,he,hA,hb,hc,hr⟩:=hx
   refine ⟨_,hk,_,w,ρ,hrun b (q+off) he,h,?_⟩
   simp only [Rp]
   exact ⟨b,q,vs,by rw [Nat.add_assoc],hA,hb,hc,hr⟩
  ·rename_i i j off
   simp only [Rp] at hx
   obtain ⟨b,s',cap,len,hp,he⟩:=hx
   refine ⟨_,hk,_,w,ρ,hrun b (j*s'+off) he,h,?_⟩
   simp only [Rp]
   exact ⟨b,s',cap,len,hp,by rw [Nat.add_assoc]⟩
  ·exact hk.elim
 ·exact hk.elim
def fieldW (P:Program) (ti:TI) (x:AV) (f:Nat) (K:AV→Prop):Prop :=
 match ti.d,x with
 | .struct fs,.agg cs=>f<fs.length∧(tyOf P (fs.getD f (0,0)).2).d ≠ .no∧((tyOf P (fs.getD f (0,0)).2).isAgg=true∨(tyOf P (fs.getD f (0,0)).2).size=1) ∧
   (fs.getD f (0,0)).1+(tyOf P (fs.getD f (0,0)).2).size≤cs.length∧K (ofCells (tyOf P (fs.getD f (0,0)).2) ((cs.drop (fs.getD f (0,0)).1).take (tyOf P (fs.getD f (0,0)).2).size))
 | _,_=>False
theorem run_isAgg {t:TypeId} (ht:(tyOf P t).d ≠ .no) (w:World):(isAgg t).run P w = .ok ((tyOf P t).isAgg) w:=by
 have hund:=tyOf_und (P:=P) (t:=t) rfl ht
 unfold isAgg TI.isAgg
 rw [← hund]
 unfold tdOf
 cases hu:P.underlying t with
 | none=>rw [hu] at hund;simp [tdOf] at hund;exact absurd hund.symm ht
 | some d=>simp [run_underlying hu];cases d <;> rfl
theorem run_part {t:TypeId} (ht:(tyOf P t).d ≠ .no) (h1:(tyOf P t).isAgg=true∨(tyOf P t).size=1) {vs:List Value} {off:Nat} (hl:off+(tyOf P t).size≤vs.length) (w:World) :
  (part t vs.toArray off).run P w = .ok (if (tyOf P t).isAgg then .agg ((vs.drop off).take (tyOf P t).size).toArray else ((vs.drop off).take (tyOf P t).size).headD undef) w:=by
 unfold part
 simp only [Sem.run_bind,run_isAgg ht,Result.andThen_ok]
 cases hA:(tyOf P t).isAgg with
 | true =>
  simp only [if_true,Sem.run_bind,tyOf_size ht,Result.andThen_ok,Sem.run_pure]
  congr 2
  apply Array.ext'
  simp [Array.toList_extract,List.extract_eq_take_drop]
 | false =>
  rw [hA] at h1
  simp at h1
  have:off<vs.length:=by omega
  simp only [Bool.false_eq_true,if_false,List.getElem?_toArray,List.getElem?_eq_getElem this,Sem.run_pure,h1]
  congr 1
  rw [List.drop_eq_getElem_cons this]
  rfl
theorem ok_field (h:Rep fr ρ s a w) {t:TypeId} {x:Operand} {f:Nat} (ho:o.op = .field t x f) {K:AV→Prop} (hk:fieldW P (tyOf P t) (ev s.env x) f K):∃ z,K z∧VOk P fr a w o z s:=by
 have hx:=ev_sound h.env x
 generalize ev s.env x=x' at hx hk
 unfold fieldW at hk
 split at hk
 ·rename_i fs cs hfs
  obtain ⟨hf,hty,h1,hl,hk⟩:=hk
  obtain ⟨fields,hu,hfl⟩:=tyOf_struct hfs
  obtain ⟨fd,hfd,hoff,hfty⟩:=field_of hfl hf
  simp only [Rp] at hx
  obtain ⟨vs,he,hr⟩:=hx
  have hpart:=run_part (P:=P) hty h1 (vs:=vs) (off:=(fs.getD f (0,0)).1) (by rw [hr.length];exact hl) w
  refine ⟨_,hk,_,w,ρ,?_,h,ofCells_sound ((hr.drop _).take _) (h1.imp id fun h2=>by rw [List.length_take,List.length_drop];omega)⟩
  unfold execOp
  simp only [ho,he,Instr.field]
  simp only [Sem.run_bind,run_underlying hu,Result.andThen_ok,Sem.run_pure,hfd,asAgg,hfty,hoff,hpart]
 ·exact hk.elim
def lenOf:AV→List Ob→Option Nat
 | .sl rows,_=>some rows.length
 | .sref _ _ n,_=>some n
 | .nils,_=>some 0
 | _,_=>none
def indexAddrW (P:Program) (ti:TI) (x y:AV) (hp:List Ob) (K:AV→Prop):Prop :=
 match ti.d,y with
 | .slice e,.int k n=>(tyOf P e).d ≠ .no∧(match x with
  | .sl rows=>0≤n∧n<rows.length∧AllLen (tyOf P e).size rows∧K (.ia (rows.getD n.toNat []) 0)
  | .sref i off m=>0≤n∧n<m∧(match hp.getD i .dead with | .arr _ k _ _=>k=(tyOf P e).size | _=>False)∧K (.ptr i (off+n.toNat) 0)
  | _=>False)
 | .arr len e,.int k n=>(tyOf P e).d ≠ .no∧0≤n∧n<len∧(match x with
  | .ptr i j off=>K (.ptr i j (off+n.toNat*(tyOf P e).size))
  | .ia row off=>K (.ia row (off+n.toNat*(tyOf P e).size))
  | _=>False)
 | _,_=>False
theorem add_mk (b q n:Nat):(⟨b,q,none⟩:Addr).add n=⟨b,q+n,none⟩:=by unfold Addr.add;split <;> simp_all
theorem ok_indexAddr (h:Rep fr ρ s a w) {t:TypeId} {x y:Operand} (ho:o.op = .indexAddr t x y) {K:AV→Prop} (hk:indexAddrW P (tyOf P t) (ev s.env x) (ev s.env y) s.hp K):∃ z,K z∧VOk P fr a w o z s:=by
 have hx:=ev_sound h.env x
 have hy:=ev_sound h.env y
 generalize ev s.env x=x' at hx hk
 generalize ev s.env y=y' at hy hk
 unfold indexAddrW at hk
 split at hk
 ·rename_i e k n hd
  have hu:=tyOf_slice hd
  obtain ⟨hty,hk⟩:=hk
  simp only [Rp] at hy
  have hrun:∀ b q m cap,a.eval x = .slice (some ⟨b,q,none⟩) m cap→0≤n→n<(m:Int)→(execOp a.eval o).run P w = .ok (.value (.pointer (some ⟨b,q+n.toNat*(tyOf P e).size,none⟩))) w:=by
   intro b q m cap he h0 h1
   unfold execOp
   simp only [ho,he,hy,Instr.indexAt,asIntOf]
   simp only [Sem.run_bind,Sem.run_pure,Result.andThen_ok,run_underlying hu,h0,h1,and_self,if_true,tyOf_size hty,add_mk]
  split at hk
  ·rename_i rows
   obtain ⟨h0,h1,hal,hk⟩:=hk
   simp only [Rp] at hx
   obtain ⟨ad,cap,he,hcap,hmax,hx⟩:=hx
   rcases hx with rfl | ⟨b,q,vss,rfl,hA,hb,hc,hr⟩
   ·simp at h1;omega
   ·refine ⟨_,hk,_,w,ρ,hrun b q _ cap he h0 h1,h,?_⟩
    have hn:n.toNat<rows.length:=by omega
    obtain ⟨v,hv,hr2⟩:=hr.get (getD_some (d:=[]) hn)
    simp only [Rp]
    refine ⟨b,q+n.toNat*(tyOf P e).size,v,by simp,hA,hb,?_,hr2⟩
    intro j u hj
    have:=hc _ u (flatten_at (hr.lens hal) hv hj)
    rwa [← Nat.add_assoc] at this
  ·rename_i i off m
   obtain ⟨h0,h1,hal,hk⟩:=hk
   split at hal
   ·rename_i T k0 pf rows hob
    simp only [Rp] at hx
    rcases hx with ⟨_,_,rfl,_⟩ | ⟨b,s',cap,len,q,hp,hlen,he,hq⟩
    ·simp at h1;omega
    ·have ho':=h.heap i
     rw [hob,hp] at ho'
     obtain ⟨hk0,hlen0,vss,rest,hb,hr,hal',hl,hc,hm⟩:=ho'
     have hs:s'=(tyOf P e).size:=by rw [hk0,hal]
     refine ⟨_,hk,_,w,ρ,hrun b q _ _ he h0 h1,h,?_⟩
     simp only [Rp]
     refine ⟨b,s',cap,len,hp,?_⟩
     rw [hq (.inl (by omega)),hs,Nat.add_mul]
     rfl
   ·exact hal.elim
  ·exact hk.elim
 ·rename_i len e k n hd
  have hu:=tyOf_arr hd
  obtain ⟨hty,h0,h1,hk⟩:=hk
  simp only [Rp] at hy
  have hrun:∀ b q,a.eval x = .pointer (some ⟨b,q,none⟩)→(execOp a.eval o).run P w = .ok (.value (.pointer (some ⟨b,q+n.toNat*(tyOf P e).size,none⟩))) w:=by
   intro b q he
   unfold execOp
   simp only [ho,he,hy,Instr.indexAt,asIntOf,Instr.sureAddr]
   simp only [Sem.run_bind,Sem.run_pure,Result.andThen_ok,run_underlying hu,h0,h1,and_self,if_true,tyOf_size hty,add_mk]
  split at hk
  ·rename_i i j off
   simp only [Rp] at hx
   obtain ⟨b,s',cap,l,hp,he⟩:=hx
   refine ⟨_,hk,_,w,ρ,hrun b _ he,h,?_⟩
   simp only [Rp]
   exact ⟨b,s',cap,l,hp,by rw [Nat.add_assoc]⟩
  ·rename_i row off
   simp only [Rp] at hx
   obtain ⟨b,q,vs,he,hA,hb,hc,hr⟩:=hx
   refine ⟨_,hk,_,w,ρ,hrun b _ he,h,?_⟩
   simp only [Rp]
   exact ⟨b,q,vs,by rw [Nat.add_assoc],hA,hb,hc,hr⟩
  ·exact hk.elim
 ·exact hk.elim
end
section
variable {P:Program} {fr:Fr} {ρ:Pl} {s:St} {a:Act} {w:World} {o:Oper}
def bnd (x:Option AV) (d:Nat):Option Int :=
 match x with
 | none=>some d
 | some (.int _ n)=>some n
 | _=>none
def mxOk (x:Option AV) (h:Int) (n:Nat):Prop :=
 match x with
 | none=>True
 | some (.int _ m)=>h≤m∧m≤n
 | _=>False
def sliceW (P:Program) (ti:TI) (x:AV) (lo hi mx:Option AV) (hp:List Ob) (K:AV→Prop):Prop :=
 match ti.d,x with
 | .str,.str b=>mx=none∧(match bnd lo 0,bnd hi b.size with
  | some l,some h=>0≤l∧l≤h∧h≤b.size∧K (.str (b.extract l.toNat h.toNat))
  | _,_=>False)
 | .slice e,.sl rows=>(tyOf P e).d ≠ .no∧(match bnd lo 0,bnd hi rows.length with
  | some l,some h=>0≤l∧l≤h∧h≤rows.length∧mxOk mx h rows.length∧(mx=none∨hi.isSome=true)∧AllLen (tyOf P e).size rows∧K (.sl ((rows.take h.toNat).drop l.toNat))
  | _,_=>False)
 | .slice e,.sref i off n=>(tyOf P e).d ≠ .no∧mx=none∧(match hp.getD i .dead with | .arr _ k _ _=>k=(tyOf P e).size | _=>False)∧(match bnd lo 0,bnd hi n with
  | some l,some h=>0≤l∧l≤h∧h≤n∧K (.sref i (off+l.toNat) (h.toNat-l.toNat))
  | _,_=>False)
 | .slice e,.nils=>(tyOf P e).d ≠ .no∧mx=none∧bnd lo 0=some 0∧bnd hi 0=some 0∧K .nils
 | _,_=>False
def evo (e:List AV):Option Operand→Option AV
 | none=>none
 | some x=>some (ev e x)
theorem run_sliceBound {A:Nat→Prop} {ρ:Pl} {e:List AV} {x:Operand} {l:Int} {y d:Nat} (he:Rps w A ρ e a.tmps.toList) (hb:bnd (some (ev e x)) d=some l) (h0:0≤l) (h1:l≤y) (c:BoundsCode) :
  (Instr.sliceBound (a.eval x) y c).run P w = .ok l.toNat w:=by
 have hx:=ev_sound he x
 generalize ev e x=x' at hx hb
 unfold bnd at hb
 split at hb
 ·rename_i heq;cases heq
 ·rename_i k n heq
  cases heq
  cases hb
  simp only [Rp] at hx
  simp [Instr.sliceBound,hx,asIntOf,h0,h1]
 ·cases hb
theorem run_sliceBounds {A:Nat→Prop} {ρ:Pl} {e:List AV} {lo hi mx:Option Operand} {l h:Int} {n cap d:Nat} {isS:Bool} (he:Rps w A ρ e a.tmps.toList)
  (hl:bnd (evo e lo) 0=some l) (hh:bnd (evo e hi) n=some h) (h0:0≤l) (h1:l≤h) (h2:h≤n) (hn:n≤cap) (hm:mxOk (evo e mx) h n) (hmx:evo e mx=none∨(evo e hi).isSome=true) :
  ∃ m,(Instr.sliceBounds isS n cap (lo.map a.eval) (hi.map a.eval) (mx.map a.eval)).run P w = .ok (l.toNat,h.toNat,m) w∧h.toNat≤m∧m≤cap∧(mx=none→m=cap):=by
 have hL:∀ (y:Nat) (c:BoundsCode),h.toNat≤y→((match (lo.map a.eval) with | some v=>Instr.sliceBound v y c | none=>pure 0:Sem Nat)).run P w = .ok l.toNat w:=by
  intro y c hy
  cases lo with
  | none=>simp only [evo,bnd] at hl;cases hl;rfl
  | some x=>exact run_sliceBound he hl h0 (by omega) c
 cases mx with
 | none =>
  refine ⟨cap,?_,by omega,Nat.le_refl _,fun _=>rfl⟩
  have hH:∀ (c:BoundsCode),((match (hi.map a.eval) with | some v=>Instr.sliceBound v cap c | none=>pure n:Sem Nat)).run P w = .ok h.toNat w:=by
   intro c
   cases hi with
   | none=>simp only [evo,bnd] at hh;cases hh;rfl
   | some x=>exact run_sliceBound he hh (by omega) (by omega) c
  cases hi with
  | none =>
   simp only [evo,bnd] at hh;cases hh
   cases lo with
   | none=>simp only [evo,bnd] at hl;cases hl;simp [Instr.sliceBounds]
   | some x=>simp [Instr.sliceBounds,run_sliceBound (P:=P) (a:=a) (w:=w) (y:=n) he hl h0 (by omega)]
  | some z =>
   cases lo with
   | none =>
    simp only [evo,bnd] at hl;cases hl
    simp [Instr.sliceBounds,run_sliceBound (P:=P) (a:=a) (w:=w) (y:=cap) he hh (by omega) (by omega)]
   | some x =>
    simp [Instr.sliceBounds,run_sliceBound (P:=P) (a:=a) (w:=w) (y:=cap) he hh (by omega) (by omega),run_sliceBound (P:=P) (a:=a) (w:=w) (y:=h.toNat) he hl h0 (by omega)]
 | some z =>
  simp only [evo] at hm hmx
  have hz:=ev_sound he z
  generalize ev e z=z' at hm hmx hz
  unfold mxOk at hm
  split at hm
  ·rename_i heq;cases heq
  ·rename_i k m heq
   cases heq
   simp only [Rp] at hz
   have hmb:∀ c,(Instr.sliceBound (a.eval z) cap c).run P w = .ok m.toNat w:=by
    intro c
    have h4:0≤m:=by omega
    have h5:m≤cap:=by omega
    simp [Instr.sliceBound,hz,asIntOf,h4,h5]
   cases hi with
   | none=>simp [evo] at hmx
   | some y =>
    refine ⟨m.toNat,?_,by omega,by omega,by simp⟩
    cases lo with
    | none =>
     simp only [evo,bnd] at hl;cases hl
     simp [Instr.sliceBounds,hmb,run_sliceBound (P:=P) (a:=a) (w:=w) (y:=m.toNat) he hh (by omega) (by omega)]
    | some x =>
     simp [Instr.sliceBounds,hmb,run_sliceBound (P:=P) (a:=a) (w:=w) (y:=m.toNat) he hh (by omega) (by omega),run_sliceBound (P:=P) (a:=a) (w:=w) (y:=h.toNat) he hl h0 (by omega)]
  ·exact hm.elim
theorem ok_slice (h:Rep fr ρ s a w) {t:TypeId} {x:Operand} {lo hi mx:Option Operand} (ho:o.op = .slice t x lo hi mx) {K:AV→Prop} (hk:sliceW P (tyOf P t) (ev s.env x) (evo s.env lo) (evo s.env hi) (evo s.env mx) s.hp K) :
  ∃ z,K z∧VOk P fr a w o z s:=by
 have hx:=ev_sound h.env x
 generalize ev s.env x=x' at hx hk
 unfold sliceW at hk
 split at hk
 ·rename_i b hd
  have hu:=tyOf_str hd
  obtain ⟨hmx,hk⟩:=hk
  simp only [Rp] at hx
  split at hk
  ·rename_i l hh hl2 hh2
   obtain ⟨h0,h1,h2,hk⟩:=hk
   have hmx':mx=none:=by cases mx <;> simp_all [evo]
   subst hmx'
   obtain ⟨m,hr,_,_,_⟩:=run_sliceBounds (P:=P) (mx:=none) (isS:=false) (d:=0) h.env hl2 hh2 h0 h1 h2 (Nat.le_refl _) trivial (.inl rfl)
   refine ⟨_,hk,.string (b.extract l.toNat hh.toNat),w,ρ,?_,h,by simp only [Rp]⟩
   unfold execOp
   simp only [ho,hx,Instr.sliceAt,Instr.slice]
   simp only [Option.map_none] at hr
   simp [run_underlying hu,hr]
  ·exact hk.elim
 ·rename_i e rows hd
  have hu:=tyOf_slice hd
  obtain ⟨hty,hk⟩:=hk
  split at hk
  ·rename_i l hh hl2 hh2
   obtain ⟨h0,h1,h2,hmx,hmx2,hal,hk⟩:=hk
   simp only [Rp] at hx
   obtain ⟨ad,cap,he,hcap,hmax,hx⟩:=hx
   obtain ⟨m,hr,hm1,hm2,_⟩:=run_sliceBounds (P:=P) (isS:=true) (d:=0) h.env hl2 hh2 h0 h1 h2 hcap hmx hmx2
   have hlen:((rows.take hh.toNat).drop l.toNat).length=hh.toNat-l.toNat:=by rw [List.length_drop,List.length_take,Nat.min_eq_left (by omega)]
   refine ⟨_,hk,.slice (if m=l.toNat then ad else ad.map (·.add (l.toNat*(tyOf P e).size))) (hh.toNat-l.toNat) (m-l.toNat),w,ρ,?_,h,?_⟩
   ·unfold execOp
    simp only [ho,he,Instr.sliceAt,Instr.slice]
    simp [run_underlying hu,hr,tyOf_size hty]
   ·simp only [Rp]
    refine ⟨_,_,by rw [hlen],by rw [hlen];omega,by omega,?_⟩
    rcases hx with rfl | ⟨b,q,vss,rfl,hA,hb,hc,hrr⟩
    ·exact .inl (by simp)
    ·by_cases hml:m=l.toNat
     ·exact .inl (List.eq_nil_of_length_eq_zero (by rw [hlen];omega))
     ·refine .inr ⟨b,q+l.toNat*(tyOf P e).size,(vss.take hh.toNat).drop l.toNat,by simp [hml,add_mk],hA,hb,?_,(hrr.take _).drop _⟩
      intro j u hj
      have e1:(vss.take hh.toNat).drop l.toNat=(vss.drop l.toNat).take (hh.toNat-l.toNat):=by rw [List.drop_take]
      rw [e1] at hj
      have:=hc _ u (flatten_drop_at (hrr.lens hal) _ _ j hj)
      rwa [← Nat.add_assoc] at this
  ·exact hk.elim
 ·rename_i e i off n hd
  have hu:=tyOf_slice hd
  obtain ⟨hty,hmx,hal,hk⟩:=hk
  split at hk
  ·rename_i l hh hl2 hh2
   obtain ⟨h0,h1,h2,hk⟩:=hk
   have hmx':mx=none:=by cases mx <;> simp_all [evo]
   subst hmx'
   split at hal
   ·rename_i T k0 pf rows hob
    simp only [Rp] at hx
    rcases hx with ⟨hp,rfl,rfl,he⟩ | ⟨b,s',cap,len,q,hp,hlen,he,hq⟩
    ·obtain ⟨m,hr,hm1,hm2,hm3⟩:=run_sliceBounds (P:=P) (mx:=none) (isS:=true) (d:=0) (cap:=0) h.env hl2 hh2 h0 h1 h2 (Nat.le_refl _) trivial (.inl rfl)
     refine ⟨_,hk,.slice none 0 0,w,ρ,?_,h,?_⟩
     ·unfold execOp
      simp only [ho,he,Instr.sliceAt,Instr.slice]
      simp only [Option.map_none] at hr
      have e1:hh.toNat=0:=by omega
      have e2:m=0:=by omega
      simp [run_underlying hu,hr,tyOf_size hty,e1,e2]
     ·have e1:l.toNat=0:=by omega
      have e2:hh.toNat=0:=by omega
      rw [e1,e2]
      simp only [Rp]
      exact .inl ⟨hp,by simp,by simp,by simp⟩
    ·have ho':=h.heap i
     rw [hob,hp] at ho'
     obtain ⟨hk0,hlen0,vss,rest,hb,hr,hal',hl,hc,hm⟩:=ho'
     obtain ⟨m,hr',hm1,hm2,hm3⟩:=run_sliceBounds (P:=P) (mx:=none) (isS:=true) (d:=0) (cap:=cap-off) h.env hl2 hh2 h0 h1 h2 (by omega) trivial (.inl rfl)
     have hm4:=hm3 rfl
     subst hm4
     refine ⟨_,hk,.slice (if cap-off=l.toNat then some ⟨b,q,none⟩ else some ⟨b,q+l.toNat*(tyOf P e).size,none⟩) (hh.toNat-l.toNat) (cap-off-l.toNat),w,ρ,?_,h,?_⟩
     ·unfold execOp
      simp only [ho,he,Instr.sliceAt,Instr.slice]
      simp only [Option.map_none] at hr'
      simp [run_underlying hu,hr',tyOf_size hty,add_mk]
     ·simp only [Rp]
      refine .inr ⟨b,s',cap,len,if cap-off=l.toNat then q else q+l.toNat*(tyOf P e).size,hp,by omega,by split <;> simp [Nat.sub_sub],?_⟩
      intro hcase
      have hs:s'=(tyOf P e).size:=by rw [hk0,hal]
      split
      ·rename_i hcl
       rcases hcase with h5 | h5
       ·omega
       ·have:off=0:=by omega
        subst this
        have:=hq (.inr rfl)
        have e1:l.toNat=0:=by omega
        rw [e1];omega
      ·rw [hq (by omega),hs,Nat.add_mul]
   ·exact hal.elim
  ·exact hk.elim
 ·rename_i e hd
  have hu:=tyOf_slice hd
  obtain ⟨hty,hmx,hl2,hh2,hk⟩:=hk
  have hmx':mx=none:=by cases mx <;> simp_all [evo]
  subst hmx'
  simp only [Rp] at hx
  obtain ⟨m,hr,hm1,hm2,hm3⟩:=run_sliceBounds (P:=P) (mx:=none) (isS:=true) (d:=0) (cap:=0) (n:=0) h.env hl2 hh2 (Int.le_refl _) (Int.le_refl _) (Int.le_refl _) (Nat.le_refl _) trivial (.inl rfl)
  refine ⟨_,hk,.slice none 0 0,w,ρ,?_,h,by simp only [Rp]⟩
  unfold execOp
  simp only [ho,hx,Instr.sliceAt,Instr.slice]
  simp only [Option.map_none] at hr
  have e2:m=0:=by omega
  simp [run_underlying hu,hr,tyOf_size hty,e2]
 ·exact hk.elim
theorem run_equal_bool {t:TypeId} (hu:P.underlying t=some .bool) (p q:Bool) (w:World):(Op.equal t (.bool p) (.bool q)).run P w = .ok (p == q) w:=by
 have e:∀ d,(Op.equalIn (d+1) t (.bool p) (.bool q)).run P w = .ok (p == q) w:=by
  intro d
  simp only [Op.equalIn,Sem.run_bind,run_underlying hu,Result.andThen_ok,Sem.run_pure]
 exact e 9999
def bandI (k:IntKind) (x y:Int):Int:=k.wrap ((BitVec.ofInt k.bits x &&& BitVec.ofInt k.bits y).toNat)
def borI (k:IntKind) (x y:Int):Int:=k.wrap ((BitVec.ofInt k.bits x ||| BitVec.ofInt k.bits y).toNat)
def bxorI (k:IntKind) (x y:Int):Int:=k.wrap ((BitVec.ofInt k.bits x ^^^ BitVec.ofInt k.bits y).toNat)
def bandnI (k:IntKind) (x y:Int):Int:=k.wrap ((BitVec.ofInt k.bits x &&& ~~~ BitVec.ofInt k.bits y).toNat)
def bnotI (k:IntKind) (n:Int):Int:=k.wrap ((BitVec.ofInt k.bits (if k.signed then -1 else k.max) ^^^ BitVec.ofInt k.bits n).toNat)
def intW (op:BinOp) (k:IntKind) (x y:Int) (K:AV→Prop):Prop :=
 match op with
 | .add=>K (.int k (k.wrap (x+y)))
 | .sub=>K (.int k (k.wrap (x-y)))
 | .mul=>K (.int k (k.wrap (x*y)))
 | .quo=>y≠0∧K (.int k (k.wrap (x.tdiv y)))
 | .rem=>y≠0∧K (.int k (x.tmod y))
 | .and=>K (.int k (bandI k x y))
 | .or=>K (.int k (borI k x y))
 | .xor=>K (.int k (bxorI k x y))
 | .andNot=>K (.int k (bandnI k x y))
 | .eql=>K (.bool (x == y))
 | .neq=>K (.bool (x != y))
 | .lss=>K (.bool (decide (x<y)))
 | .leq=>K (.bool (decide (x≤y)))
 | .gtr=>K (.bool (decide (x>y)))
 | .geq=>K (.bool (decide (x≥y)))
 | _=>False
def TI.isPtr (ti:TI):Bool:=match ti.d with | .ptr _=>true | _=>false
theorem run_equal_ptr {t e:TypeId} (hu:P.underlying t=some (.pointer e)) (a:Option Addr) (w:World):(Op.equal t (.pointer a) (.pointer none)).run P w = .ok a.isNone w:=by
 have h:∀ d,(Op.equalIn (d+1) t (.pointer a) (.pointer none)).run P w = .ok a.isNone w:=by
  intro d
  cases a <;> simp only [Op.equalIn,Sem.run_bind,run_underlying hu,Result.andThen_ok,Sem.run_pure,Option.isNone]
 exact h 9999
def binW (P:Program) (ti:TI) (op:BinOp) (x y:AV) (K:AV→Prop):Prop :=
 match x,y with
 | .int k m,.int k' n=>match op with
  | .shl=>0≤n∧K (.int k (k.wrap (m*2^min n.toNat k.bits)))
  | .shr=>0≤n∧K (.int k (m.fdiv (2^min n.toNat k.bits)))
  | op=>k=k'∧intW op k m n K
 | .bool p,.bool q=>ti.d = .bool∧(match op with | .eql=>K (.bool (p == q)) | .neq=>K (.bool (!(p == q))) | _=>False)
 | .str p,.str q=>match op with
  | .eql=>K (.bool (p.toList == q.toList))
  | .neq=>K (.bool (!(p.toList == q.toList)))
  | .add=>p.size+q.size≤9223372036854775807∧K (.str (p++q))
  | _=>False
 | .ptr _ _ _,.nilp=>ti.isPtr=true∧(match op with | .eql=>K (.bool false) | .neq=>K (.bool true) | _=>False)
 | .nilp,.nilp=>ti.isPtr=true∧(match op with | .eql=>K (.bool true) | .neq=>K (.bool false) | _=>False)
 | _,_=>False
theorem ok_bin (h:Rep fr ρ s a w) {op:BinOp} {t ty:TypeId} {x y:Operand} (ho:o.op = .binOp op t x y ty) {K:AV→Prop} (hk:binW P (tyOf P t) op (ev s.env x) (ev s.env y) K):∃ z,K z∧VOk P fr a w o z s:=by
 have hx:=ev_sound h.env x
 have hy:=ev_sound h.env y
 generalize ev s.env x=x' at hx hk
 generalize ev s.env y=y' at hy hk
 have fin:∀ (z:AV) (v:Value),K z→Rp w (Av fr.F ρ) ρ z v→(do eqGuard op t x y (a.eval x) (a.eval y);binOp op t (a.eval x) (a.eval y):Sem Value).run P w = .ok v w→∃ z,K z∧VOk P fr a w o z s:=by
  intro z v hz hr hrun
  refine ⟨z,hz,v,w,ρ,?_,h,hr⟩
  unfold execOp
  simp only [ho]
  simp only [Sem.run_bind] at hrun ⊢
  simp [hrun]
 have finI:∀ (k:IntKind) (n:Int),K (.int k n)→(do eqGuard op t x y (a.eval x) (a.eval y);binOp op t (a.eval x) (a.eval y):Sem Value).run P w = .ok (.int k n) w→∃ z,K z∧VOk P fr a w o z s :=
  fun k n hz=>fin _ _ hz (by simp only [Rp])
 have finB:∀ (b:Bool),K (.bool b)→(do eqGuard op t x y (a.eval x) (a.eval y);binOp op t (a.eval x) (a.eval y):Sem Value).run P w = .ok (.bool b) w→∃ z,K z∧VOk P fr a w o z s :=
  fun b hz=>fin _ _ hz (by simp only [Rp])
 have finS:∀ (b:ByteArray),K (.str b)→(do eqGuard op t x y (a.eval x) (a.eval y);binOp op t (a.eval x) (a.eval y):Sem Value).run P w = .ok (.string b) w→∃ z,K z∧VOk P fr a w o z s :=
  fun b hz=>fin _ _ hz (by simp only [Rp])
 clear fin
 unfold binW at hk
 split at hk
 ·rename_i k m k' n
  simp only [Rp] at hx hy
  rw [hx,hy] at finI finB finS
  split at hk
  ·exact finI _ _ hk.2 (by
    have:¬ n<0:=by omega
    simp [eqGuard,binOp,Op.shift,this])
  ·exact finI _ _ hk.2 (by
    have:¬ n<0:=by omega
    simp [eqGuard,binOp,Op.shift,this])
  ·rename_i op' hn1 hn2
   obtain ⟨rfl,hk⟩:=hk
   unfold intW at hk
   split at hk <;> first
    | exact hk.elim
    | exact finI _ _ hk (by simp [eqGuard,binOp,Op.intArith,Op.intBits,bandI,borI,bxorI,bandnI])
    | exact finB _ hk (by simp [eqGuard,binOp,Op.intCmp])
    | exact finI _ _ hk.2 (by simp [eqGuard,binOp,Op.intDiv,hk.1])
 ·rename_i p q
  simp only [Rp] at hx hy
  rw [hx,hy] at finI finB finS
  obtain ⟨hd,hk⟩:=hk
  have hu:=tyOf_bool hd
  split at hk
  ·exact finB _ hk (by simp [eqGuard,binOp,run_equal_bool hu])
  ·exact finB _ hk (by simp [eqGuard,binOp,run_equal_bool hu])
  ·exact hk.elim
 ·rename_i p q
  simp only [Rp] at hx hy
  rw [hx,hy] at finI finB finS
  split at hk
  ·exact finB _ hk (by simp [eqGuard,binOp,Op.stringOp])
  ·exact finB _ hk (by simp [eqGuard,binOp,Op.stringOp])
  ·exact finS _ hk.2 (by
    have h1:¬ (9223372036854775807<(p.size:Int)+(q.size:Int)):=by have:=hk.1;omega
    simp [eqGuard,binOp,Op.stringOp,IntKind.max,IntKind.signed,IntKind.bits,h1])
  ·exact hk.elim
 ·rename_i i j off
  simp only [Rp] at hx hy
  obtain ⟨b,s',cap,len,_,hx⟩:=hx
  rw [hx,hy] at finI finB finS
  obtain ⟨hd,hk⟩:=hk
  obtain ⟨e,hu⟩:∃ e,P.underlying t=some (.pointer e):=by
   unfold TI.isPtr at hd
   split at hd
   ·rename_i e he;exact ⟨e,tyOf_ptr he⟩
   ·cases hd
  split at hk
  ·exact finB _ hk (by simp [eqGuard,binOp,run_equal_ptr hu])
  ·exact finB _ hk (by simp [eqGuard,binOp,run_equal_ptr hu])
  ·exact hk.elim
 ·simp only [Rp] at hx hy
  rw [hx,hy] at finI finB finS
  obtain ⟨hd,hk⟩:=hk
  obtain ⟨e,hu⟩:∃ e,P.underlying t=some (.pointer e):=by
   unfold TI.isPtr at hd
   split at hd
   ·rename_i e he;exact ⟨e,tyOf_ptr he⟩
   ·cases hd
  split at hk
  ·exact finB _ hk (by simp [eqGuard,binOp,run_equal_ptr hu])
  ·exact finB _ hk (by simp [eqGuard,binOp,run_equal_ptr hu])
  ·exact hk.elim
 ·exact hk.elim
def unW (op:UnOp) (x:AV) (K:AV→Prop):Prop :=
 match op,x with
 | .neg,.int k n=>K (.int k (k.wrap (0-n)))
 | .not,.bool b=>K (.bool (!b))
 | .xor,.int k n=>K (.int k (bnotI k n))
 | _,_=>False
theorem ok_un (h:Rep fr ρ s a w) {op:UnOp} {t:TypeId} {x:Operand} (ho:o.op = .unOp op t x) {K:AV→Prop} (hk:unW op (ev s.env x) K):∃ z,K z∧VOk P fr a w o z s:=by
 have hx:=ev_sound h.env x
 generalize ev s.env x=x' at hx hk
 unfold unW at hk
 split at hk
 ·rename_i k n
  simp only [Rp] at hx
  refine ⟨_,hk,.int k (k.wrap (0-n)),w,ρ,?_,h,by simp only [Rp]⟩
  unfold execOp
  simp only [ho,hx]
  simp [Op.unary,Op.intArith]
 ·rename_i b
  simp only [Rp] at hx
  refine ⟨_,hk,.bool (!b),w,ρ,?_,h,by simp only [Rp]⟩
  unfold execOp
  simp only [ho,hx]
  simp [Op.unary]
 ·rename_i k n
  simp only [Rp] at hx
  refine ⟨_,hk,.int k (bnotI k n),w,ρ,?_,h,by simp only [Rp]⟩
  unfold bnotI
  unfold execOp
  simp only [ho,hx]
  simp [Op.unary,Op.intBits]
 ·exact hk.elim
def convW (ts td:TI) (x:AV) (K:AV→Prop):Prop :=
 match ts.d,td.d,x with
 | .int _,.int k,.int _ n=>K (.int k (k.wrap n))
 | .str,.str,.str b=>K (.str b)
 | _,_,_=>False
theorem ok_conv (h:Rep fr ρ s a w) {t u:TypeId} {x:Operand} (ho:o.op = .convert t u x) {K:AV→Prop} (hk:convW (tyOf P t) (tyOf P u) (ev s.env x) K):∃ z,K z∧VOk P fr a w o z s:=by
 have hx:=ev_sound h.env x
 generalize ev s.env x=x' at hx hk
 unfold convW at hk
 split at hk
 ·rename_i k1 k k2 n h1 h2
  simp only [Rp] at hx
  refine ⟨_,hk,.int k (k.wrap n),w,ρ,?_,h,by simp only [Rp]⟩
  unfold execOp
  simp only [ho,hx]
  simp [convert,run_underlying (tyOf_int h1),run_underlying (tyOf_int h2),Conv.intToInt]
 ·rename_i b h1 h2
  simp only [Rp] at hx
  refine ⟨_,hk,.string b,w,ρ,?_,h,by simp only [Rp]⟩
  unfold execOp
  simp only [ho,hx]
  simp [convert,run_underlying (tyOf_str h1),run_underlying (tyOf_str h2)]
 ·exact hk.elim
def extractW (x:AV) (i:Nat) (K:AV→Prop):Prop :=
 match x with
 | .tup l=>i<l.length∧K (l.getD i .any)
 | _=>False
theorem ok_extract (h:Rep fr ρ s a w) {i:Nat} {x:Operand} (ho:o.op = .extract x i) {K:AV→Prop} (hk:extractW (ev s.env x) i K):∃ z,K z∧VOk P fr a w o z s:=by
 have hx:=ev_sound h.env x
 generalize ev s.env x=x' at hx hk
 unfold extractW at hk
 split at hk
 ·rename_i l
  simp only [Rp] at hx
  obtain ⟨vs,he,hr⟩:=hx
  obtain ⟨v,hv,hr2⟩:=hr.get (getD_some (d := .any) hk.1)
  refine ⟨_,hk.2,v,w,ρ,?_,h,hr2⟩
  unfold execOp
  simp only [ho,he]
  simp [Instr.extract,hv]
 ·exact hk.elim
def nilCheckW (x:AV) (K:AV→Prop):Prop :=
 match x with
 | .ptr i j off=>K (.ptr i j off)
 | .ia row off=>K (.ia row off)
 | _=>False
theorem ok_nilCheck (h:Rep fr ρ s a w) {x:Operand} (ho:o.op = .nilCheck x) {K:AV→Prop} (hk:nilCheckW (ev s.env x) K):∃ z,K z∧VOk P fr a w o z s:=by
 have hx:=ev_sound h.env x
 generalize ev s.env x=x' at hx hk
 unfold nilCheckW at hk
 split at hk
 ·have hx':=hx
  simp only [Rp] at hx
  obtain ⟨b,s',cap,len,hp,he⟩:=hx
  refine ⟨_,hk,_,w,ρ,?_,h,hx'⟩
  unfold execOp
  simp only [ho,he]
  rfl
 ·have hx':=hx
  simp only [Rp] at hx
  obtain ⟨b,q,vs,he,_⟩:=hx
  refine ⟨_,hk,_,w,ρ,?_,h,hx'⟩
  unfold execOp
  simp only [ho,he]
  rfl
 ·exact hk.elim
def indexW (P:Program) (ti:TI) (x y:AV) (K:AV→Prop):Prop :=
 match ti.d,x,y with
 | .str,.str b,.int _ n=>0≤n∧n<b.size∧K (.int .u8 ((b.get! n.toNat).toNat))
 | .arr len e,.agg cs,.int _ n=>(tyOf P e).d ≠ .no∧((tyOf P e).isAgg=true∨(tyOf P e).size=1)∧0≤n∧n<len∧n.toNat*(tyOf P e).size+(tyOf P e).size≤cs.length∧K (ofCells (tyOf P e) ((cs.drop (n.toNat*(tyOf P e).size)).take (tyOf P e).size))
 | _,_,_=>False
theorem ok_index (h:Rep fr ρ s a w) {t:TypeId} {x y:Operand} (ho:o.op = .index t x y) {K:AV→Prop} (hk:indexW P (tyOf P t) (ev s.env x) (ev s.env y) K):∃ z,K z∧VOk P fr a w o z s:=by
 have hx:=ev_sound h.env x
 have hy:=ev_sound h.env y
 generalize ev s.env x=x' at hx hk
 generalize ev s.env y=y' at hy hk
 unfold indexW at hk
 split at hk
 ·rename_i b k n hd
  simp only [Rp] at hx hy
  obtain ⟨h0,h1,hk⟩:=hk
  have h2:n.toNat<b.size:=by omega
  have h3:b[n.toNat]?=some (b.get! n.toNat):=by
   rw [getElem?_pos b n.toNat h2]
   congr 1
   simp [ByteArray.get!,getElem!_pos,h2,getElem!_def]
   rfl
  refine ⟨_,hk,.int .u8 ((b.get! n.toNat).toNat),w,ρ,?_,h,by simp only [Rp]⟩
  unfold execOp
  simp only [ho,hx,hy]
  simp [Instr.index,run_underlying (tyOf_str hd),asIntOf,h0,h3]
 ·rename_i len e cs k n hd
  simp only [Rp] at hx hy
  obtain ⟨vs,he,hr⟩:=hx
  obtain ⟨hty,h1,h0,h2,h3,hk⟩:=hk
  have hpart:=run_part (P:=P) hty h1 (vs:=vs) (off:=n.toNat*(tyOf P e).size) (by rw [hr.length];exact h3) w
  refine ⟨_,hk,_,w,ρ,?_,h,ofCells_sound ((hr.drop _).take _) (h1.imp id fun h2=>by rw [List.length_take,List.length_drop];omega)⟩
  unfold execOp
  simp only [ho,he,hy]
  simp [Instr.index,run_underlying (tyOf_arr hd),asIntOf,h0,h2,tyOf_size hty,hpart]
 ·exact hk.elim
end
def laid {α:Type} (cs:List α) (off:Nat) (us:List α):List α:=cs.take off++us++cs.drop (off+us.length)
theorem laid_length {α:Type} (cs:List α) (off:Nat) (us:List α) (h:off+us.length≤cs.length):(laid cs off us).length=cs.length:=by
 simp [laid];omega
theorem foldl_set_laid:∀ (us:List Value) (k off:Nat) (cs:Array Value),off+k+us.length≤cs.size →
  (us.zipIdx k).foldl (fun (cs:Array Value) (x:Value × Nat)=>cs.setIfInBounds (off+x.2) x.1) cs=(laid cs.toList (off+k) us).toArray
 | [],k,off,cs,h=>by simp [laid]
 | u::us,k,off,cs,h=>by
  simp only [List.zipIdx_cons,List.foldl_cons]
  rw [foldl_set_laid us (k+1) off _ (by simp at h ⊢;omega)]
  simp only [laid,Array.toList_setIfInBounds,List.length_cons]
  congr 1
  have e:=list_seg_step cs.toList (off+k) u us (by simp at h ⊢;omega)
  rw [show off+(k+1)=off+k+1 by omega,e]
theorem fill_laid (place:Nat→Option (Nat × Nat)):∀ (parts:List (Nat × Value)) (cs:Array Value),
  (∀ p∈parts,∃ off,place p.1=some (off,p.2.cells.size)∧off+p.2.cells.size≤cs.size) →
  Instr.fill place cs parts=some (parts.foldl (fun cs p=>laid cs ((place p.1).getD (0,0)).1 p.2.cells.toList) cs.toList).toArray
 | [],cs,h=>by simp [Instr.fill]
 | (i,v)::rest,cs,h=>by
  obtain ⟨off,hp,ho⟩:=h (i,v) List.mem_cons_self
  have hno:¬ (off+v.cells.size>cs.size):=by simpa using ho
  have hz:v.cells.zipIdx.foldl (fun (cs:Array Value) (x:Value × Nat)=>cs.setIfInBounds (off+x.2) x.1) cs=(laid cs.toList off v.cells.toList).toArray:=by
   have:=foldl_set_laid v.cells.toList 0 off cs (by simpa using ho)
   rw [Nat.add_zero] at this
   rw [← this,← Array.foldl_toList]
   simp
  unfold Instr.fill
  rw [hp]
  simp only [ne_eq,not_true_eq_false,decide_false,Bool.false_or,decide_eq_true_eq,hno,if_false]
  rw [hz,fill_laid place rest]
  ·simp [hp]
  ·intro p hpm
   obtain ⟨off',h1,h2⟩:=h p (List.mem_cons_of_mem _ hpm)
   refine ⟨off',h1,?_⟩
   show off'+p.2.cells.size≤(laid cs.toList off v.cells.toList).length
   rw [laid_length _ _ _ (by simpa only [Array.length_toList] using ho)]
   simpa only [Array.length_toList] using h2
section
variable {P:Program} {fr:Fr} {ρ:Pl} {s:St} {a:Act} {w:World} {o:Oper}
theorem Rps.laid {A:Nat→Prop} {ρ:Pl} {l:List AV} {vs:List Value} (h:Rps w A ρ l vs) {m:List AV} {us:List Value} (h':Rps w A ρ m us) (off:Nat):Rps w A ρ (Vm.laid l off m) (Vm.laid vs off us):=by
 unfold Vm.laid
 rw [h'.length]
 exact ((h.take off).append h').append (h.drop _)
def buildW (P:Program) (ti:TI) (parts:List (Nat × AV)) (K:AV→Prop):Prop :=
 match ti.d with
 | .struct fs=>ti.hz=true∧(∀ p∈parts,storable p.2=true∧p.1<fs.length∧(tyOf P (fs.getD p.1 (0,0)).2).d ≠ .no∧(cellsOf p.2).length=(tyOf P (fs.getD p.1 (0,0)).2).size∧(fs.getD p.1 (0,0)).1+(cellsOf p.2).length≤ti.zero.length) ∧
   (∀ f∈fs,(tyOf P f.2).d ≠ .no) ∧
   K (.agg (parts.foldl (fun cs p=>laid cs (fs.getD p.1 (0,0)).1 (cellsOf p.2)) ti.zero))
 | .arr _ e=>ti.hz=true∧(tyOf P e).d ≠ .no∧(∀ p∈parts,storable p.2=true∧(cellsOf p.2).length=(tyOf P e).size∧p.1*(tyOf P e).size+(cellsOf p.2).length≤ti.zero.length) ∧
   K (.agg (parts.foldl (fun cs p=>laid cs (p.1*(tyOf P e).size) (cellsOf p.2)) ti.zero))
 | _=>False
theorem run_mapM_list {α β:Type} (g:α→Sem β) (k:α→β) (w:World):∀ (l:List α),(∀ x∈l,(g x).run P w = .ok (k x) w)→(l.mapM g).run P w = .ok (l.map k) w
 | [],_=>by simp
 | x::l,h=>by
  simp only [List.mapM_cons,Sem.run_bind,h x List.mem_cons_self,Result.andThen_ok,run_mapM_list g k w l fun y hy=>h y (List.mem_cons_of_mem _ hy),Sem.run_pure,List.map_cons]
theorem zip_fold {A:Nat→Prop} {ρ:Pl} (off:Nat→Nat) (e:List AV) (he:Rps w A ρ e a.tmps.toList):∀ (ps:List (Nat × Operand)) (l:List AV) (vs:List Value),Rps w A ρ l vs→(∀ p∈ps,storable (ev e p.2)=true) →
  Rps w A ρ ((ps.map fun p=>(p.1,ev e p.2)).foldl (fun cs p=>laid cs (off p.1) (cellsOf p.2)) l) ((ps.map fun p=>(p.1,a.eval p.2)).foldl (fun cs p=>laid cs (off p.1) p.2.cells.toList) vs)
 | [],l,vs,h,_=>h
 | p::ps,l,vs,h,hs=>by
  simp only [List.map_cons,List.foldl_cons]
  exact zip_fold off e he ps _ _ (h.laid (cellsOf_sound (ev_sound he p.2) (hs p List.mem_cons_self)).1 (off p.1)) fun q hq=>hs q (List.mem_cons_of_mem _ hq)
theorem ok_build (h:Rep fr ρ s a w) {t:TypeId} {ps:Array (Nat × Operand)} (ho:o.op = .build t ps) {K:AV→Prop} (hk:buildW P (tyOf P t) (ps.toList.map fun p=>(p.1,ev s.env p.2)) K):∃ z,K z∧VOk P fr a w o z s:=by
 unfold buildW at hk
 split at hk
 ·rename_i fs hfs
  obtain ⟨hz,hparts,htys,hk⟩:=hk
  obtain ⟨fields,hu,hfl⟩:=tyOf_struct hfs
  obtain ⟨i,z,hi,hz',_,_,hzero⟩:=tyOf_zero (P:=P) (t:=t) (by rw [hfs];simp) hz
  have hlen:z.cells.size=(tyOf P t).zero.length:=by rw [hzero];simp
  have hfields:∀ f∈fields.toList,(tyOf P f.type).d ≠ .no:=by
   intro f hf
   have:(f.offset,f.type)∈fs:=by rw [← hfl];exact List.mem_map.2 ⟨f,hf,rfl⟩
   exact htys _ this
  have hsizes:(fields.mapM fun f=>do pure (f.offset,← sizeOf f.type):Sem (Array (Nat × Nat))).run P w = .ok (fields.toList.map fun f=>(f.offset,(tyOf P f.type).size)).toArray w:=by
   rw [Array.mapM_eq_mapM_toList]
   have:=run_mapM_list (P:=P) (fun f:Field=>(do pure (f.offset,← sizeOf f.type):Sem (Nat × Nat))) (fun f=>(f.offset,(tyOf P f.type).size)) w fields.toList (fun f hf=>by
    simp only [Sem.run_bind,tyOf_size (hfields f hf) w,Result.andThen_ok,Sem.run_pure])
   simp only [Sem.run_map,this,Result.andThen_ok]
  have hplace:∀ j,j<fs.length→(fields.toList.map fun f=>(f.offset,(tyOf P f.type).size)).toArray[j]?=some ((fs.getD j (0,0)).1,(tyOf P (fs.getD j (0,0)).2).size):=by
   intro j hj
   obtain ⟨fd,hfd,hoff,hfty⟩:=field_of hfl hj
   have h3:fields.toList[j]?=some fd:=by simpa using hfd
   simp [h3,hoff,hfty]
  let vparts:=ps.toList.map fun p=>(p.1,a.eval p.2)
  have hv:∀ p∈ps.toList,(a.eval p.2).cells.size=(cellsOf (ev s.env p.2)).length:=by
   intro p hp
   have h4:=(hparts (p.1,ev s.env p.2) (List.mem_map.2 ⟨p,hp,rfl⟩)).1
   have h5:=(cellsOf_sound (ev_sound h.env p.2) h4).1.length
   simpa using h5
  have hfill:=fill_laid (fun j=>(fields.toList.map fun f=>(f.offset,(tyOf P f.type).size)).toArray[j]?) vparts z.cells (by
   intro p hp
   obtain ⟨q,hq,rfl⟩:=List.mem_map.1 hp
   obtain ⟨h4,h5,h6,h7,h8⟩:=hparts (q.1,ev s.env q.2) (List.mem_map.2 ⟨q,hq,rfl⟩)
   refine ⟨(fs.getD q.1 (0,0)).1,?_,?_⟩
   ·rw [hplace _ h5,hv q hq,h7]
   ·rw [hv q hq,hlen];exact h8)
  refine ⟨_,hk,.agg (vparts.foldl (fun cs p=>laid cs (fs.getD p.1 (0,0)).1 p.2.cells.toList) z.cells.toList).toArray,w,ρ,?_,h,?_⟩
  ·have hpl:∀ (l:List (Nat × Value)) (cs:List Value),(∀ p∈l,p.1<fs.length)→l.foldl (fun cs p=>laid cs (((fields.toList.map fun f=>(f.offset,(tyOf P f.type).size)).toArray[p.1]?).getD (0,0)).1 p.2.cells.toList) cs=l.foldl (fun cs p=>laid cs (fs.getD p.1 (0,0)).1 p.2.cells.toList) cs:=by
    intro l
    induction l with
    | nil=>intro cs _;rfl
    | cons p l ih =>
     intro cs hl
     simp only [List.foldl_cons]
     rw [hplace _ (hl p List.mem_cons_self),ih _ fun q hq=>hl q (List.mem_cons_of_mem _ hq)]
     rfl
   unfold execOp
   simp only [ho]
   have hzv:(zeroValue t).run P w = .ok z w:=by simp [zeroValue,typeInfo,hi,hz']
   simp only [Instr.build,Sem.run_bind,hzv,Result.andThen_ok,run_underlying hu,hsizes]
   have e1:(ps.map fun x=>match x with | (i,x)=>(i,a.eval x)).toList=vparts:=by simp [vparts]
   rw [e1,hfill]
   simp only [Sem.run_pure,Result.andThen_ok]
   rw [hpl _ _ (by
    intro p hp
    obtain ⟨q,hq,rfl⟩:=List.mem_map.1 hp
    exact (hparts (q.1,ev s.env q.2) (List.mem_map.2 ⟨q,hq,rfl⟩)).2.1)]
  ·simp only [Rp]
   refine ⟨_,rfl,?_⟩
   rw [hzero]
   exact zip_fold (w:=w) (fun j=>(fs.getD j (0,0)).1) s.env h.env ps.toList _ _ (Rps_cst1 w (Av fr.F ρ) ρ z.cells.toList) fun p hp=>(hparts (p.1,ev s.env p.2) (List.mem_map.2 ⟨p,hp,rfl⟩)).1
 ·rename_i n e he
  obtain ⟨hz,hte,hparts,hk⟩:=hk
  have hu:=tyOf_arr he
  obtain ⟨i,z,hi,hz',_,_,hzero⟩:=tyOf_zero (P:=P) (t:=t) (by rw [he];simp) hz
  have hlen:z.cells.size=(tyOf P t).zero.length:=by rw [hzero];simp
  let vparts:=ps.toList.map fun p=>(p.1,a.eval p.2)
  have hv:∀ p∈ps.toList,(a.eval p.2).cells.size=(cellsOf (ev s.env p.2)).length:=by
   intro p hp
   have h4:=(hparts (p.1,ev s.env p.2) (List.mem_map.2 ⟨p,hp,rfl⟩)).1
   have h5:=(cellsOf_sound (ev_sound h.env p.2) h4).1.length
   simpa using h5
  have hfill:=fill_laid (fun j=>some (j*(tyOf P e).size,(tyOf P e).size)) vparts z.cells (by
   intro p hp
   obtain ⟨q,hq,rfl⟩:=List.mem_map.1 hp
   obtain ⟨h4,h7,h8⟩:=hparts (q.1,ev s.env q.2) (List.mem_map.2 ⟨q,hq,rfl⟩)
   refine ⟨q.1*(tyOf P e).size,?_,?_⟩
   ·rw [hv q hq,h7]
   ·rw [hv q hq,hlen];exact h8)
  refine ⟨_,hk,.agg (vparts.foldl (fun cs p=>laid cs (p.1*(tyOf P e).size) p.2.cells.toList) z.cells.toList).toArray,w,ρ,?_,h,?_⟩
  ·unfold execOp
   simp only [ho]
   have hzv:(zeroValue t).run P w = .ok z w:=by simp [zeroValue,typeInfo,hi,hz']
   simp only [Instr.build,Sem.run_bind,hzv,Result.andThen_ok,run_underlying hu,tyOf_size hte w]
   have e1:(ps.map fun x=>match x with | (i,x)=>(i,a.eval x)).toList=vparts:=by simp [vparts]
   rw [e1,hfill]
   simp only [Sem.run_pure,Result.andThen_ok,Option.getD_some]
  ·simp only [Rp]
   refine ⟨_,rfl,?_⟩
   rw [hzero]
   exact zip_fold (w:=w) (fun j=>j*(tyOf P e).size) s.env h.env ps.toList _ _ (Rps_cst1 w (Av fr.F ρ) ρ z.cells.toList) fun p hp=>(hparts (p.1,ev s.env p.2) (List.mem_map.2 ⟨p,hp,rfl⟩)).1
 ·exact hk.elim
def litW (P:Program) (ti:TI) (d:Option Nat) (len:Nat) (parts:List (Nat × AV)) (s:St) (K:AV→St→Prop):Prop :=
 match ti.d,d with
 | .slice e,some d=>dead s d∧(tyOf P e).d ≠ .no∧(tyOf P e).hz=true∧(tyOf P e).zero.length=(tyOf P e).size∧parts.map (·.1)=List.range len∧len*(tyOf P e).size≤16777216∧len≤16777216 ∧
   (∀ p∈parts,storable p.2=true∧(cellsOf p.2).length=(tyOf P e).size) ∧
   K (.sref d 0 len) (s.seth d (.arr e (tyOf P e).size ((parts.map fun p=>cellsOf p.2).all AV.pures) (parts.map fun p=>cellsOf p.2)))
 | _,_=>False
theorem rep_cells (z:Array Value) (n:Nat):((Array.range (n*z.size)).map (z[·%z.size]!)).toList=(List.replicate n z.toList).flatten:=by
 induction n with
 | zero=>simp
 | succ n ih =>
  rw [List.replicate_succ',List.flatten_append,← ih]
  apply List.ext_getElem?
  intro j
  simp only [Array.toList_map,Array.toList_range,List.getElem?_map,List.getElem?_append,List.length_map,List.length_range,List.flatten_cons,List.flatten_nil,List.append_nil]
  by_cases hj:j<n*z.size
  ·rw [List.getElem?_range (by rw [Nat.add_mul];omega)]
   simp [hj]
  ·simp only [hj,if_false]
   by_cases hj2:j<(n+1)*z.size
   ·rw [List.getElem?_range hj2]
    simp only [Option.map_some]
    have hz:j-n*z.size<z.size:=by rw [Nat.add_mul,Nat.one_mul] at hj2;omega
    have hmod:j%z.size=j-n*z.size:=by
     have:j=n*z.size+(j-n*z.size):=by omega
     conv=>lhs;rw [this,Nat.mul_comm n,Nat.mul_add_mod]
     rw [Nat.mul_comm z.size n,Nat.mod_eq_of_lt hz]
    rw [hmod]
    simp [hz]
   ·rw [List.getElem?_eq_none (by simp;omega),List.getElem?_eq_none (by simp;rw [Nat.add_mul,Nat.one_mul] at hj2;omega)]
    rfl
theorem fold_range (k:Nat):∀ (vss:List (List Value)) (i:Nat) (ls:List Value),(∀ r∈vss,r.length=k)→ls.length=(i+vss.length)*k →
  (List.zip (List.range' i vss.length) vss).foldl (fun cs p=>laid cs (p.1*k) p.2) ls=ls.take (i*k)++vss.flatten
 | [],i,ls,_,hl=>by
  simp at hl
  simp [← hl]
 | r::vss,i,ls,h,hl=>by
  have hr:=h r List.mem_cons_self
  simp only [List.length_cons,List.range'_succ,List.zip_cons_cons,List.foldl_cons]
  have hle:i*k+r.length≤ls.length:=by rw [hl,hr,Nat.add_mul,List.length_cons,Nat.add_mul];omega
  rw [fold_range k vss (i+1) _ (fun q hq=>h q (List.mem_cons_of_mem _ hq)) (by rw [laid_length _ _ _ hle,hl,List.length_cons];congr 1;omega)]
  rw [List.flatten_cons,← List.append_assoc]
  congr 1
  unfold laid
  rw [Nat.add_mul,Nat.one_mul,List.append_assoc,List.take_append,List.length_take,Nat.min_eq_left (by omega),Nat.add_sub_cancel_left]
  rw [List.take_take,Nat.min_eq_right (by omega),List.take_append,hr]
  simp [← hr]
theorem ok_lit (h:Rep fr ρ s a w) {t:TypeId} {len:Nat} {ps:Array (Nat × Operand)} (ho:o.op = .buildSlice t len ps) {K:AV→St→Prop}
  (hk:litW P (tyOf P t) o.dst len (ps.toList.map fun p=>(p.1,ev s.env p.2)) s K):∃ z s',K z s'∧VOk P fr a w o z s':=by
 unfold litW at hk
 split at hk
 ·rename_i d' dd e d hd' hdd
  have hu:=tyOf_slice hd'
  obtain ⟨hdead,hty,hz,hzl,hidx,hc24,hl24,hparts,hk⟩:=hk
  obtain ⟨i,z,hi,hz',hsz,_,hzero⟩:=tyOf_zero (P:=P) (t:=e) hty hz
  have hlen:z.cells.size=(tyOf P e).size:=by rw [← hzl,hzero];simp
  let vss:=ps.toList.map fun p=>(a.eval p.2).cells.toList
  have hv:∀ p∈ps.toList,(a.eval p.2).cells.size=(tyOf P e).size:=by
   intro p hp
   have h4:=hparts (p.1,ev s.env p.2) (List.mem_map.2 ⟨p,hp,rfl⟩)
   have h5:=(cellsOf_sound (ev_sound h.env p.2) h4.1).1.length
   rw [h4.2] at h5
   simpa using h5
  have hvss:∀ r∈vss,r.length=(tyOf P e).size:=by
   intro r hr
   obtain ⟨p,hp,rfl⟩:=List.mem_map.1 hr
   simpa using hv p hp
  have hpl:ps.toList.length=len:=by
   have:=congrArg List.length hidx
   simpa using this
  have hidx':ps.toList.map (·.1)=List.range len:=by rw [← hidx,List.map_map];rfl
  let zs:=(Array.range (len*(tyOf P e).size)).map ((if len*(tyOf P e).size=0 then #[] else z.cells)[·%(if len*(tyOf P e).size=0 then #[] else z.cells).size]!)
  have hzs:zs.size=len*(tyOf P e).size:=by simp [zs]
  let vparts:=ps.toList.map fun p=>(p.1,a.eval p.2)
  have hlt:∀ p∈ps.toList,p.1<len:=by
   intro p hp
   have:p.1∈List.range len:=by rw [← hidx'];exact List.mem_map.2 ⟨p,hp,rfl⟩
   simpa using this
  have hfill:=fill_laid (fun i=>some (i*(tyOf P e).size,(tyOf P e).size)) vparts zs (by
   intro p hp
   obtain ⟨q,hq,rfl⟩:=List.mem_map.1 hp
   refine ⟨q.1*(tyOf P e).size,by rw [hv q hq],?_⟩
   rw [hv q hq,hzs]
   have:=hlt q hq
   calc q.1*(tyOf P e).size+(tyOf P e).size=(q.1+1)*(tyOf P e).size:=by rw [Nat.add_mul,Nat.one_mul]
    _≤len*(tyOf P e).size:=Nat.mul_le_mul_right _ this)
  have hfold:vparts.foldl (fun cs p=>laid cs (p.1*(tyOf P e).size) p.2.cells.toList) zs.toList=vss.flatten:=by
   have h6:=fold_range (tyOf P e).size vss 0 zs.toList hvss (by rw [Array.length_toList,hzs];simp [vss];rw [← hpl];simp)
   simp only [Nat.zero_mul,List.take_zero,List.nil_append] at h6
   refine Eq.trans ?_ h6
   have h7:vparts.map (fun p=>(p.1,p.2.cells.toList))=List.zip (List.range' 0 vss.length) vss:=by
    have h8:vss.length=len:=by simp only [vss,List.length_map];exact hpl
    rw [h8,← List.range_eq_range',← hidx']
    simp only [vparts,vss,List.map_map]
    generalize ps.toList=l
    induction l with
    | nil=>rfl
    | cons p l ih=>simp [ih]
   rw [← h7]
   exact (List.foldl_map (f:=fun p:Nat × Value=>(p.1,p.2.cells.toList)) (g:=fun cs p=>laid cs (p.1*(tyOf P e).size) p.2)).symm
  have hrows:RpR w (Av fr.F ρ) ρ (ps.toList.map fun p=>cellsOf (ev s.env p.2)) vss:=by
   refine RpR.mk (by simp [vss]) fun i x v hx hv=>?_
   simp only [vss,List.getElem?_map] at hx hv
   cases hp:ps.toList[i]? with
   | none=>rw [hp] at hx;cases hx
   | some p =>
    rw [hp] at hx hv
    cases hx;cases hv
    exact (cellsOf_sound (ev_sound h.env p.2) (hparts (p.1,ev s.env p.2) (List.mem_map.2 ⟨p,List.mem_of_getElem? hp,rfl⟩)).1).1
  have e0:((ps.toList.map fun p=>(p.1,ev s.env p.2)).map fun p=>cellsOf p.2)=ps.toList.map fun p=>cellsOf (ev s.env p.2):=by simp [List.map_map]
  rw [e0] at hk
  have hrows':RpR w (Av fr.F ρ) (Pf ((ps.toList.map fun p=>cellsOf (ev s.env p.2)).all AV.pures) ρ) (ps.toList.map fun p=>cellsOf (ev s.env p.2)) vss:=by
   cases hp:(ps.toList.map fun p=>cellsOf (ev s.env p.2)).all AV.pures with
   | true=>exact hrows.pure noPl fun r hr=>by simpa using List.all_eq_true.1 hp r hr
   | false=>exact hrows
  have hal:=h.alloc hdead (T:=e) (rest:=[]) (k:=(tyOf P e).size) (cap:=len) hrows' (by
    intro r hr
    obtain ⟨p,hp,rfl⟩:=List.mem_map.1 hr
    exact (hparts (p.1,ev s.env p.2) (List.mem_map.2 ⟨p,hp,rfl⟩)).2)
   (by rw [List.append_nil,flatten_length hvss];simp only [vss,List.length_map];rw [hpl]) (by simp [hpl]) (by simp [maxLen];omega)
  refine ⟨_,_,hk,.slice (some ⟨w.heap.size,0,none⟩) len len,_,_,?_,hal,?_⟩
  ·unfold execOp
   simp only [ho]
   have hno:¬ (len*(tyOf P e).size>2^24):=by omega
   have e1:(ps.map fun x=>match x with | (i,x)=>(i,a.eval x)).toList=vparts:=by simp [vparts]
   have hzv:(zeroValue e).run P w = .ok z w:=by simp [zeroValue,typeInfo,hi,hz']
   simp only [Instr.buildSlice,Sem.run_bind,run_underlying hu,Result.andThen_ok,tyOf_size hty,hno,if_false]
   rw [e1]
   by_cases hc0:len*(tyOf P e).size=0
   ·have hzs0:zs=Array.map (fun x=>(#[]:Array Value)[x%(#[]:Array Value).size]!) (Array.range (len*(tyOf P e).size)):=by simp only [zs,if_pos hc0]
    rw [hzs0] at hfill hfold
    simp only [if_pos hc0,Sem.run_bind,Sem.run_pure,Result.andThen_ok]
    rw [hfill]
    simp only [Option.getD_some,hfold]
    simp [newRow]
   ·have hzs0:zs=Array.map (fun x=>z.cells[x%z.cells.size]!) (Array.range (len*(tyOf P e).size)):=by simp only [zs,if_neg hc0]
    rw [hzs0] at hfill hfold
    simp only [if_neg hc0,Sem.run_bind,Sem.run_pure,Result.andThen_ok,hzv]
    rw [hfill]
    simp only [Option.getD_some,hfold]
    simp [newRow]
  ·simp only [Rp,Pl.put_same]
   exact .inr ⟨w.heap.size,_,len,_,0,rfl,by simp [hpl],by simp,by simp⟩
 ·exact hk.elim
def makeW (P:Program) (ti:TI) (d:Option Nat) (x y:AV) (s:St) (K:AV→St→Prop):Prop :=
 match ti.d,d,x,y with
 | .slice e,some d,.int _ n,.int _ m=>n=m∧dead s d∧(tyOf P e).d ≠ .no∧(tyOf P e).hz=true∧(tyOf P e).zero.length=(tyOf P e).size∧0≤n∧((tyOf P e).bytes:Int)*n≤281474976710656∧n≤9223372036854775807 ∧
   K (.sref d 0 n.toNat) (s.seth d (.arr e (tyOf P e).size true (List.replicate n.toNat (tyOf P e).zero)))
 | _,_,_,_=>False
theorem ok_make (h:Rep fr ρ s a w) {t:TypeId} {x y:Operand} (ho:o.op = .makeSlice t x y) {K:AV→St→Prop} (hk:makeW P (tyOf P t) o.dst (ev s.env x) (ev s.env y) s K):∃ z s',K z s'∧VOk P fr a w o z s':=by
 have hx:=ev_sound h.env x
 have hy:=ev_sound h.env y
 generalize ev s.env x=x' at hx hk
 generalize ev s.env y=y' at hy hk
 unfold makeW at hk
 split at hk
 ·rename_i _ _ _ _ e d k n k' m hd' hdd
  have hu:=tyOf_slice hd'
  simp only [Rp] at hx hy
  obtain ⟨rfl,hdead,hty,hz,hzl,h0,hb,h63,hk⟩:=hk
  obtain ⟨i,z,hi,hz',hsz,hby,hzero⟩:=tyOf_zero (P:=P) (t:=e) hty hz
  have hlen:z.cells.size=(tyOf P e).size:=by rw [← hzl,hzero];simp
  have hrun:=run_make (P:=P) w t e i z hu hi hz' k k' n n h0 (Int.le_refl _) (by rw [hby];exact hb) h63
  have hcells:(madeCells z.cells (n.toNat*i.size))=((List.replicate n.toNat z.cells.toList).flatten++[]).toArray:=by
   have:=rep_cells z.cells n.toNat
   rw [List.append_nil,← this,hsz,← hlen]
   rfl
  have hrows:RpR w (Av fr.F ρ) noPl (List.replicate n.toNat (tyOf P e).zero) (List.replicate n.toNat z.cells.toList):=by
   refine RpR.mk (by simp) fun i x v hx hv=>?_
   rw [List.getElem?_replicate] at hx hv
   split at hx
   ·rename_i hi
    rw [if_pos hi] at hv
    cases hx;cases hv
    rw [hzero]
    exact Rps_cst1 w (Av fr.F ρ) noPl z.cells.toList
   ·cases hx
  have hal:=h.alloc hdead (T:=e) (pf:=true) (rest:=[]) (k:=(tyOf P e).size) (cap:=n.toNat) hrows (by
    intro r hr
    rw [(List.mem_replicate.1 hr).2,hzl])
   (by rw [List.append_nil,flatten_length (s:=(tyOf P e).size) (by intro r hr;rw [(List.mem_replicate.1 hr).2];simpa using hlen)];simp) (by simp) (by simp [maxLen];omega)
  refine ⟨_,_,hk,.slice (some ⟨w.heap.size,0,none⟩) n.toNat n.toNat,_,_,?_,hal,?_⟩
  ·unfold execOp
   simp only [ho,hx,hy]
   rw [hcells] at hrun
   simp [hrun]
  ·simp only [Rp,Pl.put_same]
   exact .inr ⟨w.heap.size,_,n.toNat,_,0,rfl,by simp,by simp,by simp⟩
 ·exact hk.elim
def lenW (ti:TI) (x:AV) (K:AV→Prop):Prop :=
 match ti.d,x with
 | .str,.str b=>K (.int .i64 b.size)
 | .slice _,.sl rows=>K (.int .i64 rows.length)
 | .slice _,.sref _ _ n=>K (.int .i64 n)
 | .slice _,.nils=>K (.int .i64 0)
 | _,_=>False
theorem ok_len (h:Rep fr ρ s a w) {t:TypeId} {x:Operand} (ho:o.op = .call { callee := .builtin .len,args:=#[x],argTypes:=#[t] }) {K:AV→Prop} (hk:lenW (tyOf P t) (ev s.env x) K):∃ z,K z∧VOk P fr a w o z s:=by
 have hx:=ev_sound h.env x
 generalize ev s.env x=x' at hx hk
 have fin:∀ (n:Nat),(Builtin.len_ #[t] o.type #[a.eval x]).run P w = .ok (.int .i64 n) w→K (.int .i64 n)→∃ z,K z∧VOk P fr a w o z s:=by
  intro n hr hz
  refine ⟨_,hz,.int .i64 n,w,ρ,?_,h,by simp only [Rp]⟩
  unfold execOp
  simp only [ho,resolve,invoke,builtin,Sem.run_bind,Sem.run_pure,Result.andThen_ok,List.map_toArray,List.map_cons,List.map_nil,hr]
 unfold lenW at hk
 split at hk
 ·rename_i b hd
  simp only [Rp] at hx
  exact fin _ (by simp [Builtin.len_,run_underlying (tyOf_str hd),hx,goInt]) hk
 ·rename_i e rows hd
  simp only [Rp] at hx
  obtain ⟨ad,cap,he,_⟩:=hx
  exact fin _ (by simp [Builtin.len_,run_underlying (tyOf_slice hd),he,goInt]) hk
 ·rename_i e i off n hd
  simp only [Rp] at hx
  rcases hx with ⟨_,_,rfl,he⟩ | ⟨b,s',cap,len,q,_,_,he,_⟩
  ·exact fin 0 (by simp [Builtin.len_,run_underlying (tyOf_slice hd),he,goInt]) hk
  ·exact fin _ (by simp [Builtin.len_,run_underlying (tyOf_slice hd),he,goInt]) hk
 ·rename_i e hd
  simp only [Rp] at hx
  exact fin 0 (by simp [Builtin.len_,run_underlying (tyOf_slice hd),hx,goInt]) hk
 ·exact hk.elim
end
section
variable {P:Program} {fr:Fr} {ρ:Pl} {s:St} {a:Act} {w:World} {o:Oper}
def rowsOf (x:AV) (hp:List Ob):Option (Bool × List (List AV)) :=
 match x with
 | .sl rows=>some (true,rows)
 | .nils=>some (true,[])
 | .sref i off n=>match hp.getD i .dead with
  | .arr _ _ pf rows=>some (pf,(rows.drop off).take n)
  | _=>none
 | _=>none
theorem Holds.cap {w:World} {A:Nat→Prop} {ρ:Pl} {T:TypeId} {rows:List (List AV)} {b s cap:Nat} (h:Holds w A ρ T rows b s cap):rows.length≤cap:=by
 obtain ⟨vss,rest,h1,h2,h3,h4,h5⟩:=h
 exact h5.1
theorem rowsOf_sound (h:Rep fr ρ s a w) {x:AV} {v:Value} (hx:Rp w (Av fr.F ρ) ρ x v) {pf:Bool} {rows:List (List AV)} (hr:rowsOf x s.hp=some (pf,rows)) {k:Nat} (hk:AllLen k rows) :
  ∃ ad c vss,v = .slice ad rows.length c∧RpR w (Av fr.F ρ) (Pf pf ρ) rows vss∧(rows=[]∨∃ b q,ad=some ⟨b,q,none⟩∧CellsAt w b q vss.flatten):=by
 unfold rowsOf at hr
 split at hr
 ·rename_i rs
  cases hr
  simp only [Rp] at hx
  obtain ⟨ad,cap,he,_,_,hx⟩:=hx
  rcases hx with rfl | ⟨b,q,vss,rfl,hA,hb,hc,hrr⟩
  ·exact ⟨ad,cap,[],he,by simp only [RpR],.inl rfl⟩
  ·exact ⟨_,cap,vss,he,hrr,.inr ⟨b,q,rfl,hc⟩⟩
 ·cases hr
  simp only [Rp] at hx
  exact ⟨none,0,[],hx,by simp only [RpR],.inl rfl⟩
 ·rename_i i off n
  split at hr
  ·rename_i T k0 pf' rs hob
   cases hr
   simp only [Rp] at hx
   rcases hx with ⟨hp,rfl,rfl,he⟩ | ⟨b,s',cap,len,q,hp,hlen,he,hq⟩
   ·exact ⟨none,0,[],by simpa using he,by simp [RpR],.inl (by simp)⟩
   ·have ho':=h.heap i
    rw [hob,hp] at ho'
    obtain ⟨_,hlen0,hh⟩:=ho'
    obtain ⟨vss,hrr,hlens,hcells⟩:=hh.cells
    have hl:((rs.drop off).take n).length=n:=by simp;omega
    have hcap:=hh.cap
    refine ⟨_,_,(vss.drop off).take n,by rw [hl];exact he,(hrr.drop off).take n,?_⟩
    by_cases hn:n=0
    ·exact .inl (List.eq_nil_of_length_eq_zero (by omega))
    ·refine .inr ⟨b,q,rfl,?_⟩
     intro j u hj
     rw [hq (.inl (by omega))]
     have:=hcells _ u (flatten_drop_at hlens off n j hj)
     rwa [Nat.zero_add] at this
  ·cases hr
 ·cases hr
theorem RpR.oneCells {A:Nat→Prop} {ρ:Pl}:∀ {l:List (List AV)} {vs:List (List Value)},RpR w A ρ l vs→(∀ r∈l,r.all AV.one=true)→∀ v∈vs.flatten,v.oneCell'=true
 | [],_,h,_,v,hv=>by simp only [RpR] at h;subst h;simp at hv
 | r::l,_,h,h1,v,hv=>by
  simp only [RpR] at h
  obtain ⟨u,us,rfl,h2,h3⟩:=h
  rw [List.flatten_cons] at hv
  rcases List.mem_append.1 hv with hv | hv
  ·exact one_cells h2 (h1 r List.mem_cons_self) v hv
  ·exact RpR.oneCells h3 (fun r' h'=>h1 r' (List.mem_cons_of_mem _ h')) v hv
def AllOne (rows:List (List AV)):Prop:=∀ r∈rows,r.all AV.one=true
theorem Rep.killNames (h:Rep fr ρ s a w) (i:Nat):Rep fr ρ ⟨AV.kills i s.env,s.hp.map (Ob.kill i)⟩ a w:=by
 have hlat:LaterBut i w (Av fr.F ρ) ρ w (Av fr.F ρ) ρ:=⟨Nat.le_refl _,fun _ _ h=>h,fun _ _ _=>rfl,fun _ _ _ h=>h⟩
 refine { keep:=h.keep,base:=h.base,defers:=h.defers,heap:=fun j=>?_,inj:=h.inj,mine:=h.mine,fF:=h.fF,pin:=h.pin,env:=Rps.kill hlat _ h.env }
 have:(s.hp.map (Ob.kill i)).getD j .dead=Ob.kill i (s.hp.getD j .dead):=by
  simp only [List.getD_eq_getElem?_getD,List.getElem?_map]
  cases s.hp[j]? <;> rfl
 show HRo _ _ _ ((s.hp.map (Ob.kill i)).getD j .dead) _
 rw [this]
 have hj':=h.heap j
 cases hob:s.hp.getD j .dead with
 | dead=>rw [hob] at hj';exact hj'
 | map clock births rs=>rw [hob] at hj';exact HRo.restM hlat hj' (fun _ _ _ _=>rfl)
 | iter m since seen stepped=>rw [hob] at hj';exact HRo.restI (fun v hv=>Rp.kill hlat m hv) hj' (fun _ _ _ _=>rfl)
 | arr T' k' pf' rs =>
  rw [hob] at hj'
  match hpj:ρ j,hj' with
  | some .nil,hj'=>simp only [HRo] at hj';subst hj';cases pf' <;> rfl
  | some (.blk b k cap len),hj' =>
   obtain ⟨hk0,h0,vss',rest',h1,h2,h3,h4,h5,h6⟩:=hj'
   refine ⟨hk0,by cases pf' <;> simpa using h0,vss',rest',h1,hlat.pf h2,?_,h4,by cases pf' <;> simpa using h5,h6⟩
   cases pf' with
   | true=>exact h3
   | false =>
    intro r hr
    obtain ⟨r',hr',rfl⟩:=List.mem_map.1 hr
    rw [kills_length]
    exact h3 r' hr'
  | some (.mapb b),hj'=>cases hj'
  | none,hj'=>cases hj'
theorem Rep.nilObj (h:Rep fr ρ s a w) {d:Nat} (hd:dead s d) (T:TypeId) (k:Nat) (pf:Bool):Rep fr (ρ.put d (some .nil)) ⟨s.env,s.hp.set d (.arr T k pf [])⟩ a w:=by
 have hdl:d<s.hp.length:=(List.getElem?_eq_some_iff.1 hd).1
 have hρd:ρ d=none:=by
  have:=h.heap d
  rw [show s.hp.getD d .dead = .dead by simp [List.getD_eq_getElem?_getD,show s.hp[d]?=some .dead from hd]] at this
  exact this
 have hav:∀ k',Av fr.F (ρ.put d (some .nil)) k'→Av fr.F ρ k':=by
  rintro k' (h1 | ⟨i,p,h1,h2⟩)
  ·exact .inl h1
  ·by_cases hi:i=d
   ·subst hi
    rw [Pl.put_same] at h1
    cases h1
    simp [Place.block] at h2
   ·rw [Pl.put_ne _ _ hi] at h1
    exact .inr ⟨i,p,h1,h2⟩
 have hlat:Later w (Av fr.F ρ) ρ w (Av fr.F (ρ.put d (some .nil))) (ρ.put d (some .nil)) :=
  ⟨Nat.le_refl _,fun k' _ h=>hav k' h,fun _ _ _=>rfl,fun i p hp=>by
   by_cases hi:i=d
   ·subst hi;rw [hρd] at hp;cases hp
   ·rw [Pl.put_ne _ _ hi];exact hp⟩
 refine { keep:=h.keep,base:=h.base,defers:=h.defers,heap:=fun i=>?_,inj:=?_,mine:=?_,fF:=h.fF,pin:=fun i hi=>?_,env:=h.env.later _ hlat }
 ·by_cases hi:i=d
  ·subst hi
   show HRo _ _ _ ((s.hp.set i _).getD i .dead) _
   rw [getD_set_same _ _ _ _ hdl,Pl.put_same]
   rfl
  ·show HRo _ _ _ ((s.hp.set d _).getD i .dead) _
   rw [getD_set_other _ _ _ _ _ hi,Pl.put_ne _ _ hi]
   exact (h.heap i).later hlat fun q b hq hb=>rfl
 ·intro i j p q b hi hj hp hq
  by_cases hid:i=d
  ·subst hid
   rw [Pl.put_same] at hi
   cases hi
   simp [Place.block] at hp
  ·by_cases hjd:j=d
   ·subst hjd
    rw [Pl.put_same] at hj
    cases hj
    simp [Place.block] at hq
   ·rw [Pl.put_ne _ _ hid] at hi
    rw [Pl.put_ne _ _ hjd] at hj
    exact h.inj i j p q b hi hj hp hq
 ·intro i p b hi hp
  by_cases hid:i=d
  ·subst hid
   rw [Pl.put_same] at hi
   cases hi
   simp [Place.block] at hp
  ·rw [Pl.put_ne _ _ hid] at hi
   exact h.mine i p b hi hp
 ·by_cases hid:i=d
  ·subst hid
   exact absurd hρd (h.pin i hi).2
  ·rw [Pl.put_ne _ _ hid]
   exact h.pin i hi
def appendW (P:Program) (ti:TI) (pins:List Nat) (d:Option Nat) (x y:AV) (s:St) (K:AV→St→Prop):Prop :=
 match ti.d,rowsOf y s.hp with
 | .slice e,some (pf',new)=>(tyOf P e).d ≠ .no∧(tyOf P e).hz=true∧(tyOf P e).zero.length=(tyOf P e).size∧(tyOf P e).size≠0∧AllLen (tyOf P e).size new∧AllOne new∧(match x with
  | .sref i 0 n=>match s.hp.getD i .dead with
   | .arr T k pf rows=>T=e∧k=(tyOf P e).size∧i∉pins∧(pf=true→pf'=true∨AllPure new)∧n≤rows.length∧(n+new.length)*(tyOf P e).bytes≤140737488355328∧n+new.length≤140737488355328 ∧
     K (.sref i 0 (n+new.length)) ⟨AV.kills i s.env,(s.hp.set i (.arr T k pf (rows.take n++new))).map (Ob.kill i)⟩
   | _=>False
  | .nils=>match d with
   | some d=>dead s d∧d∉pins∧new.length*(tyOf P e).bytes≤140737488355328∧new.length≤140737488355328∧K (.sref d 0 new.length) ⟨AV.kills d s.env,(s.hp.set d (.arr e (tyOf P e).size pf' new)).map (Ob.kill d)⟩
   | none=>False
  | _=>False)
 | _,_=>False
theorem run_append_zero {t ty e:TypeId} (ht:P.underlying t=some (.slice e)) {i:TypeInfo} (hi:P.info? e=some i) (base:Option Addr) (n cap:Nat) (hn:n≤cap) (x:Value) (ad:Option Addr) (c:Nat) (hx:x = .slice ad 0 c) (w:World) :
  (Builtin.append_ #[t,t] ty #[.slice base n cap,x]).run P w = .ok (.slice base n cap) w:=by
 subst hx
 have hfc:(Builtin.firstCells i.size 0 (.slice ad 0 c)).run P w = .ok #[] w:=by
  cases ad with
  | none=>rfl
  | some b=>simp [Builtin.firstCells,loadCells,loadCellsFrom]
 cases base with
 | none=>simp [Builtin.append_,run_underlying ht,sizeOf,typeInfo,hi,Builtin.lenOf,hn,hfc]
 | some b=>simp [Builtin.append_,run_underlying ht,sizeOf,typeInfo,hi,Builtin.lenOf,hn,hfc,storeCells]
theorem AllLen.append {k:Nat} {l m:List (List AV)} (h:AllLen k l) (h':AllLen k m):AllLen k (l++m):=fun r hr=>(List.mem_append.1 hr).elim (h r) (h' r)
theorem Rep.grown (h:Rep fr ρ s a w) {i:Nat} (hil:i<s.hp.length) (hpin:i∉fr.pins) {T:TypeId} {pf:Bool} {rows:List (List AV)} {vss:List (List Value)} {k cap:Nat} {z:Value} (hz:z.cells.size=k)
  (hr:RpR w (Av fr.F ρ) (Pf pf ρ) rows vss) (hs:AllLen k rows) (hc:rows.length≤cap) (hm:cap≤maxLen) (arr:Array Value) (harr:arr.toList=vss.flatten++(Builtin.zeroCells z.cells (cap-rows.length)).toList) :
  Rep fr (ρ.put i (some (.blk w.heap.size k cap rows.length))) ⟨AV.kills i s.env,(s.hp.set i (.arr T k pf rows)).map (Ob.kill i)⟩ a (w.drew.alloc (.cells arr T)):=by
 have h1:Rep fr ρ s a w.drew:=h.heapEq rfl rfl rfl rfl
 have hlat:Later w (Av fr.F ρ) (Pf pf ρ) w.drew (Av fr.F ρ) (Pf pf ρ):=⟨Nat.le_refl _,fun _ _ h=>h,fun _ _ _=>rfl,fun _ _ h=>h⟩
 have h2:=h1.move hil hpin (T:=T) (pf:=pf) (rows:=rows) (vss:=vss) (rest:=(Builtin.zeroCells z.cells (cap-rows.length)).toList) (k:=k) (cap:=cap) (hr.later _ hlat) hs
  (by
   rw [List.length_append,flatten_length (hr.lens hs),hr.length]
   simp only [Array.length_toList,size_zeroCells,hz]
   rw [← Nat.add_mul]
   congr 1
   omega) hc hm
 have e:arr=(vss.flatten++(Builtin.zeroCells z.cells (cap-rows.length)).toList).toArray:=by
  apply Array.ext'
  simpa using harr
 rw [e]
 exact h2
theorem ok_append (h:Rep fr ρ s a w) {t:TypeId} {x y:Operand} (ho:o.op = .call { callee := .builtin .append,args:=#[x,y],argTypes:=#[t,t] }) {K:AV→St→Prop}
  (hk:appendW P (tyOf P t) fr.pins o.dst (ev s.env x) (ev s.env y) s K):∃ z s',K z s'∧VOk P fr a w o z s':=by
 have hx:=ev_sound h.env x
 have hy:=ev_sound h.env y
 generalize ev s.env x=x' at hx hk
 generalize ev s.env y=y' at hy hk
 have fin:∀ (z:AV) (v:Value) (s':St) (ρ':Pl) (w':World),(Builtin.append_ #[t,t] o.type #[a.eval x,a.eval y]).run P w = .ok v w'→K z s'→Rep fr ρ' s' a w'→Rp w' (Av fr.F ρ') ρ' z v→∃ z s',K z s'∧VOk P fr a w o z s':=by
  intro z v s' ρ' w' hr hz hrep hrp
  refine ⟨z,s',hz,v,w',ρ',?_,hrep,hrp⟩
  unfold execOp
  simp only [ho,resolve,invoke,builtin,Sem.run_bind,Sem.run_pure,Result.andThen_ok,List.map_toArray,List.map_cons,List.map_nil,hr]
 unfold appendW at hk
 split at hk
 ·rename_i e pf' new hd hro
  have hu:=tyOf_slice hd
  obtain ⟨hty,hz,hzl,hsz0,hal,hone,hk⟩:=hk
  obtain ⟨i0,z0,hi,hz',hsz,hby,hzero⟩:=tyOf_zero (P:=P) (t:=e) hty hz
  have hzlen:z0.cells.size=(tyOf P e).size:=by rw [← hzl,hzero];simp
  obtain ⟨ad,c,nvs,hyv,hnr,hnc⟩:=rowsOf_sound h hy hro hal
  have hnl:nvs.flatten.length=new.length*i0.size:=by rw [flatten_length (hnr.lens hal),hnr.length,hsz]
  have hset:∀ {i:Nat} {ob:Ob},s.hp[i]?=some ob→s.hp.set i ob=s.hp:=by
   intro i ob hi
   apply List.ext_getElem?
   intro j
   rw [List.getElem?_set]
   split
   ·rename_i hj;subst hj
    rw [if_pos (List.getElem?_eq_some_iff.1 hi).1,hi]
   ·rfl
  split at hk
  ·rename_i i n
   split at hk
   ·rename_i T k0 pf rows hob
    obtain ⟨rfl,rfl,hpin,hpf,hn,hbytes,hcount,hk⟩:=hk
    have hob':=getD_arr hob
    have hil:i<s.hp.length:=(List.getElem?_eq_some_iff.1 hob').1
    have hnrP:RpR w (Av fr.F ρ) (Pf pf ρ) new nvs:=by
     cases pf with
     | false=>cases pf' with
      | true=>exact hnr.pure' ρ
      | false=>exact hnr
     | true =>
      rcases hpf rfl with rfl | hp
      ·exact hnr
      ·exact RpR.pure noPl hp hnr
    simp only [Rp] at hx
    rcases hx with ⟨hp,_,rfl,he⟩ | ⟨b,s',cap,len,q,hp,hlen,he,hq⟩
    ·
     have ho':=h.heap i
     rw [hob,hp] at ho'
     have hrows:rows=[]:=ho'
     subst hrows
     have hzero:new=[]→∃ z s',K z s'∧VOk P fr a w o z s':=by
      rintro rfl
      have hrun:=run_append_zero (P:=P) (ty:=o.type) hu hi none 0 0 (Nat.le_refl _) (a.eval y) ad c (by simpa using hyv) w
      have hkn:=h.killNames i
      refine fin _ (.slice none 0 0) _ ρ w (by rw [he];exact hrun) hk ?_ ?_
      ·rw [show (([]:List (List AV)).take 0++[])=[] from rfl,hset hob']
       exact hkn
      ·simp only [Rp]
       exact .inl ⟨hp,by simp,by simp,by simp⟩
     by_cases hm:new=[]
     ·exact hzero hm
     ·obtain ⟨b,q,rfl,hcells⟩:=hnc.resolve_left hm
      have hm':0<new.length:=List.length_pos_iff.2 hm
      rw [Nat.zero_add] at hbytes hcount
      have hrun:=run_append_nil (P:=P) w t o.type T i0 z0 hu hi hz' ⟨b,q,none⟩ new.length c nvs.flatten hnl (fun j v hj=>by rw [add_mk];exact hcells j v hj) hm' (by omega) (by rw [hby];omega)
      refine fin _ _ _ _ _ (by rw [he,hyv];exact hrun) hk (h.grown hil hpin hzlen (rows:=([]:List (List AV)).take 0++new) (cap:=grownCap w new.length 0 T) (by simpa using hnrP) (by simpa using hal) (by simpa using grownCap_ge w new.length 0 T) (grownCap_le_maxLen w _ _ _ (by simp [maxLen];omega)) _ (by simp)) ?_
      simp only [Rp,Pl.put_same]
      refine .inr ⟨_,_,_,_,0,rfl,by simp,by simp,by simp⟩
    ·have ho':=h.heap i
     rw [hob,hp] at ho'
     obtain ⟨hk0,hlen0,vss,rest,hb,hr,hal',hl,hc,hm⟩:=ho'
     subst hk0
     have hlens:=hr.lens hal'
     have hvl:=hr.length
     have hfl:vss.flatten.length=vss.length*(tyOf P T).size:=flatten_length hlens
     have hq0:q=0:=by rw [hq (by simp)];simp
     subst hq0
     simp only [Nat.sub_zero] at he
     have hnv:n≤vss.length:=by omega
     have htake:((vss.flatten++rest).take (n*(tyOf P T).size))=(vss.take n).flatten:=by
      have h1:vss.flatten=(vss.take n).flatten++(vss.drop n).flatten:=by rw [← List.flatten_append,List.take_append_drop]
      have h2:(vss.take n).flatten.length=n*(tyOf P T).size:=by rw [flatten_length fun r hr=>hlens r (List.mem_of_mem_take hr),List.length_take,Nat.min_eq_left hnv]
      rw [h1,List.append_assoc,← h2,List.take_left]
     have hrow':RpR w (Av fr.F ρ) (Pf pf ρ) (rows.take n++new) (vss.take n++nvs):=(hr.take n).append hnrP
     have hal2:AllLen (tyOf P T).size (rows.take n++new):=(allLen_take hal' n).append hal
     have hlen2:(rows.take n++new).length=n+new.length:=by rw [List.length_append,List.length_take,Nat.min_eq_left hn]
     by_cases hroom:n+new.length≤cap
     ·
      have hsrc:∃ bq,ad=some bq∨new=[]:=by
       rcases hnc with h1 | ⟨b',q',h1,_⟩
       ·exact ⟨⟨0,0,none⟩,.inr h1⟩
       ·exact ⟨_,.inl h1⟩
      have hfit:n*i0.size+nvs.flatten.length≤(vss.flatten++rest).toArray.size:=by
       rw [List.size_toArray,hl,hnl,← Nat.add_mul,hsz]
       exact Nat.mul_le_mul_right _ hroom
      have hres:=h.regrow hpin hob' hp (rows':=rows.take n++new) (vss:=vss.take n++nvs) (rest:=(vss.flatten++rest).drop (n*(tyOf P T).size+nvs.flatten.length)) hrow' hal2
       (by
        rw [List.length_append,List.flatten_append,List.length_append,← htake,List.length_take,List.length_drop,hl]
        rw [List.size_toArray,hl,hsz] at hfit
        rw [Nat.min_eq_left (by omega)]
        omega) (by omega)
      have hcont:((vss.take n++nvs).flatten++(vss.flatten++rest).drop (n*(tyOf P T).size+nvs.flatten.length))=((vss.flatten++rest).take (n*(tyOf P T).size)++nvs.flatten++(vss.flatten++rest).drop (n*(tyOf P T).size+nvs.flatten.length)):=by
       rw [htake,List.flatten_append]
      have hone2:=RpR.oneCells hnrP hone
      by_cases hm0:new=[]
      ·subst hm0
       have hnvs:nvs=[]:=by simpa using hnr.length
       subst hnvs
       have hrun:=run_append_zero (P:=P) (ty:=o.type) hu hi (some ⟨b,0,none⟩) n cap (by simpa using hroom) (a.eval y) ad c (by simpa using hyv) w
       have hw:w.setRow b ((vss.take n++[]).flatten++(vss.flatten++rest).drop (n*(tyOf P T).size+([]:List (List Value)).flatten.length)).toArray=w:=by
        rw [hcont]
        simp only [List.flatten_nil,List.append_nil,List.length_nil,Nat.add_zero,List.take_append_drop]
        exact setRow_self w b _ T (0,0) hb
       rw [hw] at hres
       refine fin _ _ _ _ w (by rw [he];exact hrun) hk hres ?_
       simp only [Rp,Pl.put_same]
       exact .inr ⟨b,_,cap,_,0,rfl,by simp;omega,by simp,by simp⟩
      ·obtain ⟨b',q',rfl,hcells⟩:=hnc.resolve_left hm0
       have hrun:=run_append_room (P:=P) w t o.type T i0 hu hi b n cap _ hb ⟨b',q',none⟩ new.length c nvs.flatten hnl (fun j v hj=>by rw [add_mk];exact hcells j v hj) hone2 hroom hfit
       rw [List.toList_toArray,hsz,← hcont] at hrun
       refine fin _ _ _ _ _ (by rw [he,hyv];exact hrun) hk hres ?_
       simp only [Rp,Pl.put_same]
       exact .inr ⟨b,_,cap,_,0,rfl,by simp;omega,by simp,by simp⟩
     ·
      have hm0:new≠[]:=by rintro rfl;simp at hroom;omega
      obtain ⟨b',q',rfl,hcells⟩:=hnc.resolve_left hm0
      have holds:∀ j v,(vss.take n).flatten[j]?=some v→w.cell? ((⟨b,0,none⟩:Addr).add j)=some v:=by
       intro j v hj
       rw [add_mk,Nat.zero_add,cell_of_row w b j _ T (0,0) hb]
       simp only [List.getElem?_toArray]
       rw [← htake,List.getElem?_take] at hj
       split at hj
       ·exact hj
       ·cases hj
      have hlo:(vss.take n).flatten.length=n*i0.size:=by rw [flatten_length fun r hr=>hlens r (List.mem_of_mem_take hr),List.length_take,Nat.min_eq_left hnv,hsz]
      have hrun:=run_append_grow (P:=P) w t o.type T i0 z0 hu hi hz' ⟨b,0,none⟩ n cap (vss.take n).flatten hlo holds ⟨b',q',none⟩ new.length c nvs.flatten hnl (fun j v hj=>by rw [add_mk];exact hcells j v hj) (by omega) (by omega) (growslice_fits (by omega) (by rw [hby];exact hbytes))
      refine fin _ _ _ _ _ (by rw [he,hyv];exact hrun) hk (h.grown hil hpin hzlen (rows:=rows.take n++new) (vss:=vss.take n++nvs) (cap:=grownCap w (n+new.length) cap T) hrow' hal2 (by rw [hlen2];exact grownCap_ge w _ _ T) (grownCap_le_maxLen w _ _ _ (by simp [maxLen];omega)) _ (by rw [hlen2];simp)) ?_
      simp only [Rp,Pl.put_same]
      exact .inr ⟨_,_,_,_,0,rfl,by rw [hlen2];simp,by simp,by simp⟩
   ·exact hk.elim
  ·split at hk
   ·rename_i d hdd
    obtain ⟨hdead,hpin,hbytes,hcount,hk⟩:=hk
    have hil:d<s.hp.length:=(List.getElem?_eq_some_iff.1 hdead).1
    simp only [Rp] at hx
    by_cases hm:new=[]
    ·subst hm
     have hrun:=run_append_zero (P:=P) (ty:=o.type) hu hi none 0 0 (Nat.le_refl _) (a.eval y) ad c (by simpa using hyv) w
     have hn:=(h.nilObj hdead e (tyOf P e).size pf').killNames d
     refine fin _ (.slice none 0 0) _ _ w (by rw [hx];exact hrun) hk hn ?_
     simp only [Rp,Pl.put_same]
     exact .inl ⟨trivial,trivial,by simp,trivial⟩
    ·obtain ⟨b,q,rfl,hcells⟩:=hnc.resolve_left hm
     have hm':0<new.length:=List.length_pos_iff.2 hm
     have hrun:=run_append_nil (P:=P) w t o.type e i0 z0 hu hi hz' ⟨b,q,none⟩ new.length c nvs.flatten hnl (fun j v hj=>by rw [add_mk];exact hcells j v hj) hm' (by omega) (by rw [hby];omega)
     refine fin _ _ _ _ _ (by rw [hx,hyv];exact hrun) hk (h.grown hil hpin hzlen (rows:=new) (cap:=grownCap w new.length 0 e) hnr hal (grownCap_ge w new.length 0 e) (grownCap_le_maxLen w _ _ _ (by simp [maxLen];omega)) _ (by simp)) ?_
     simp only [Rp,Pl.put_same]
     exact .inr ⟨_,_,_,_,0,rfl,by simp,by simp,by simp⟩
   ·exact hk.elim
  ·exact hk.elim
 ·exact hk.elim
end
section
variable {P:Program} {fr:Fr} {ρ:Pl} {s:St} {a:Act} {w:World} {o:Oper}
def copyW (P:Program) (ti:TI) (x y:AV) (s:St) (K:AV→St→Prop):Prop :=
 match ti.d,rowsOf y s.hp with
 | .slice e,some (pf',new)=>(tyOf P e).d ≠ .no∧AllLen (tyOf P e).size new∧AllOne new∧(match x with
  | .sref i off n=>match s.hp.getD i .dead with
   | .arr T k pf rows=>k=(tyOf P e).size∧(pf=true→pf'=true∨AllPure new)∧off+n≤rows.length ∧
     K (.int .i64 (min new.length n:Nat)) (s.seth i (.arr T k pf (rows.take off++new.take (min new.length n)++rows.drop (off+min new.length n))))
   | _=>False
  | _=>False)
 | _,_=>False
theorem flatten_take_len {α:Type} {k:Nat} {l:List (List α)} (h:∀ r∈l,r.length=k) (n:Nat) (hn:n≤l.length):(l.take n).flatten.length=n*k:=by
 rw [flatten_length fun r hr=>h r (List.mem_of_mem_take hr),List.length_take,Nat.min_eq_left hn]
theorem flatten_take {α:Type} {k:Nat} {l:List (List α)} (h:∀ r∈l,r.length=k) (n:Nat) (hn:n≤l.length) (rest:List α):(l.flatten++rest).take (n*k)=(l.take n).flatten:=by
 have h1:l.flatten=(l.take n).flatten++(l.drop n).flatten:=by rw [← List.flatten_append,List.take_append_drop]
 rw [h1,List.append_assoc,← flatten_take_len h n hn,List.take_left]
theorem flatten_drop {α:Type} {k:Nat} {l:List (List α)} (h:∀ r∈l,r.length=k) (n:Nat) (hn:n≤l.length) (rest:List α):(l.flatten++rest).drop (n*k)=(l.drop n).flatten++rest:=by
 have h1:l.flatten=(l.take n).flatten++(l.drop n).flatten:=by rw [← List.flatten_append,List.take_append_drop]
 rw [h1,List.append_assoc,← flatten_take_len h n hn,List.drop_left]
theorem ok_copy (h:Rep fr ρ s a w) {t u:TypeId} {x y:Operand} (ho:o.op = .call { callee := .builtin .copy,args:=#[x,y],argTypes:=#[t,u] }) {K:AV→St→Prop}
  (hk:copyW P (tyOf P t) (ev s.env x) (ev s.env y) s K):∃ z s',K z s'∧VOk P fr a w o z s':=by
 have hx:=ev_sound h.env x
 have hy:=ev_sound h.env y
 generalize ev s.env x=x' at hx hk
 generalize ev s.env y=y' at hy hk
 unfold copyW at hk
 split at hk
 ·rename_i e pf' new hd hro
  have hu:=tyOf_slice hd
  obtain ⟨hty,hal,hone,hk⟩:=hk
  obtain ⟨ad,c,nvs,hyv,hnr,hnc⟩:=rowsOf_sound h hy hro hal
  have hnlens:=hnr.lens hal
  have hnlen:=hnr.length
  split at hk
  ·rename_i i off n
   split at hk
   ·rename_i T k0 pf rows hob
    obtain ⟨rfl,hpf,hoff,hk⟩:=hk
    have hob':=getD_arr hob
    have hnrP:RpR w (Av fr.F ρ) (Pf pf ρ) new nvs:=by
     cases pf with
     | false=>cases pf' with
      | true=>exact hnr.pure' ρ
      | false=>exact hnr
     | true =>
      rcases hpf rfl with rfl | hp
      ·exact hnr
      ·exact RpR.pure noPl hp hnr
    obtain ⟨m,hm⟩:∃ m,m=min new.length n:=⟨_,rfl⟩
    rw [← hm] at hk
    have hmle:m≤new.length:=by omega
    have hmn:m≤n:=by omega
    have hcl:(nvs.take m).flatten.length=m*(tyOf P e).size:=flatten_take_len hnlens m (by omega)
    have hcells:(Builtin.firstCells (tyOf P e).size m (a.eval y)).run P w = .ok (nvs.take m).flatten.toArray w:=by
     rw [hyv]
     rcases hnc with rfl | ⟨b',q',rfl,hcells⟩
     ·have hm0:m=0:=by simpa using hmle
      subst hm0
      cases ad with
      | none=>simp [Builtin.firstCells]
      | some b=>simp [Builtin.firstCells,loadCells,loadCellsFrom]
     ·refine run_firstCells_some w _ m ⟨b',q',none⟩ _ c _ hcl fun j v hj=>?_
      rw [add_mk]
      apply hcells j v
      have h1:nvs.flatten=(nvs.take m).flatten++(nvs.drop m).flatten:=by rw [← List.flatten_append,List.take_append_drop]
      rw [h1,List.getElem?_append_left (List.getElem?_eq_some_iff.1 hj).1]
      exact hj
    have hlo:(Builtin.lenOf (a.eval y)).run P w = .ok new.length w:=by rw [hyv];simp [Builtin.lenOf]
    simp only [Rp] at hx
    rcases hx with ⟨hp,rfl,rfl,he⟩ | ⟨b,s',cap,len,q,hp,hlen,he,hq⟩
    ·have hm0:m=0:=by omega
     subst hm0
     have ho':=h.heap i
     rw [hob,hp] at ho'
     have hrows:rows=[]:=ho'
     subst hrows
     refine ⟨_,_,hk,.int .i64 (0:Nat),w,ρ,?_,?_,by simp only [Rp]⟩
     ·unfold execOp
      simp only [ho,resolve,invoke,builtin,Sem.run_bind,Sem.run_pure,Result.andThen_ok,List.map_toArray,List.map_cons,List.map_nil]
      have e1:Nat.min new.length 0=0:=by simp
      simp [Builtin.copy_,run_underlying hu,he,hlo,e1,tyOf_size hty,hcells,goInt]
     ·have:s.seth i (.arr T (tyOf P e).size pf (([]:List (List AV)).take 0++new.take 0++([]:List (List AV)).drop (0+0)))=s:=by
       unfold St.seth
       simp only [List.take_nil,List.take_zero,List.drop_nil,List.append_nil]
       congr 1
       apply List.ext_getElem?
       intro j
       rw [List.getElem?_set]
       split
       ·rename_i hj;subst hj
        rw [if_pos (List.getElem?_eq_some_iff.1 hob').1,hob']
       ·rfl
      rw [this]
      exact h
    ·have ho':=h.heap i
     rw [hob,hp] at ho'
     obtain ⟨hk0,hlen0,vss,rest,hb,hr,hal',hl,hc,hmx⟩:=ho'
     subst hk0
     subst hlen0
     have hlens:=hr.lens hal'
     have hvl:=hr.length
     have hfl:vss.flatten.length=vss.length*(tyOf P e).size:=flatten_length hlens
     have hres:=h.setObj hob' hp (rows':=rows.take off++new.take m++rows.drop (off+m)) (vss:=vss.take off++nvs.take m++vss.drop (off+m)) (rest:=rest)
      (((hr.take off).append (hnrP.take m)).append (hr.drop _)) (((allLen_take hal' off).append (allLen_take hal m)).append (allLen_drop hal' _))
      (by
       rw [List.length_append,flatten_length (s:=(tyOf P e).size)]
       ·rw [List.length_append,List.length_append,List.length_take,List.length_take,List.length_drop,← hl,List.length_append,hfl]
        have e1:min off vss.length+min m nvs.length+(vss.length-(off+m))=vss.length:=by omega
        rw [e1]
       ·intro r hr'
        rcases List.mem_append.1 hr' with hr' | hr'
        ·rcases List.mem_append.1 hr' with hr' | hr'
         ·exact hlens r (List.mem_of_mem_take hr')
         ·exact hnlens r (List.mem_of_mem_take hr')
        ·exact hlens r (List.mem_of_mem_drop hr'))
      (by rw [List.length_append,List.length_append,List.length_take,List.length_take,List.length_drop];omega)
     have hcont:(vss.take off++nvs.take m++vss.drop (off+m)).flatten++rest=(vss.flatten++rest).take (off*(tyOf P e).size)++(nvs.take m).flatten++(vss.flatten++rest).drop (off*(tyOf P e).size+(nvs.take m).flatten.length):=by
      rw [flatten_take hlens off (by omega),hcl,← Nat.add_mul,flatten_drop hlens (off+m) (by omega)]
      simp [List.append_assoc]
     have hone2:∀ v∈(nvs.take m).flatten,v.oneCell'=true:=RpR.oneCells (hnrP.take m) fun r hr=>hone r (List.mem_of_mem_take hr)
     refine ⟨_,_,hk,.int .i64 (m:Nat),_,ρ,?_,hres,by simp only [Rp]⟩
     unfold execOp
     simp only [ho,resolve,invoke,builtin,Sem.run_bind,Sem.run_pure,Result.andThen_ok,List.map_toArray,List.map_cons,List.map_nil]
     have e1:Nat.min new.length n=m:=hm.symm
     by_cases hm0:m=0
     ·have hw:w.setRow b ((vss.take off++nvs.take m++vss.drop (off+m)).flatten++rest).toArray=w:=by
       rw [hcont]
       subst hm0
       simp only [List.take_zero,List.flatten_nil,List.append_nil,List.length_nil,Nat.add_zero,List.take_append_drop]
       exact setRow_self w b _ T (0,0) hb
      rw [hw]
      subst hm0
      simp [Builtin.copy_,run_underlying hu,he,hlo,e1,tyOf_size hty,hcells,goInt,storeCells]
     ·have hq':=hq (.inl (by omega))
      have hle:off*(tyOf P e).size+(nvs.take m).flatten.length≤(vss.flatten++rest).toArray.size:=by
       rw [List.size_toArray,hl,hcl,← Nat.add_mul]
       exact Nat.mul_le_mul_right _ (by omega)
      have hsc:=run_storeCells_at P b (off*(tyOf P e).size) T (nvs.take m).flatten 0 (vss.flatten++rest).toArray w hb (by simpa using hle) hone2
      rw [Nat.add_zero,List.toList_toArray,← hcont] at hsc
      simp only [he,hq']
      have hcp:(Builtin.copy_ #[t,u] o.type #[.slice (some ⟨b,off*(tyOf P e).size,none⟩) n (cap-off),a.eval y]).run P w = .ok (.int .i64 m) (w.setRow b ((vss.take off++nvs.take m++vss.drop (off+m)).flatten++rest).toArray):=by
       simp [Builtin.copy_,run_underlying hu,hlo,e1,tyOf_size hty,hcells,-List.flatten_append]
       rw [hsc]
       simp [goInt]
      rw [hcp]
      rfl
   ·exact hk.elim
  ·exact hk.elim
 ·exact hk.elim
def clearW (P:Program) (ti:TI) (x:AV) (s:St) (K:St→Prop):Prop :=
 match ti.d,x with
 | .slice e,.sref i off n=>(tyOf P e).d ≠ .no∧(tyOf P e).hz=true∧(tyOf P e).zero.length=(tyOf P e).size∧(tyOf P e).zero.all AV.one=true∧(match s.hp.getD i .dead with
  | .arr T k pf rows=>k=(tyOf P e).size∧off+n≤rows.length∧K (s.seth i (.arr T k pf (rows.take off++List.replicate n (tyOf P e).zero++rows.drop (off+n))))
  | _=>False)
 | _,_=>False
theorem ok_clear (h:Rep fr ρ s a w) {t:TypeId} {x:Operand} (ho:o.op = .call { callee := .builtin .clear,args:=#[x],argTypes:=#[t] }) {K:St→Prop}
  (hk:clearW P (tyOf P t) (ev s.env x) s K):∃ s',K s'∧VOk P fr a w o .any s':=by
 have hx:=ev_sound h.env x
 generalize ev s.env x=x' at hx hk
 unfold clearW at hk
 split at hk
 ·rename_i e i off n hd
  have hu:=tyOf_slice hd
  obtain ⟨hty,hz,hzl,hone,hk⟩:=hk
  obtain ⟨inf,z,hi,hz',hsz,hby,hzero⟩:=tyOf_zero (P:=P) (t:=e) hty hz
  have hzv:∀ w,(zeroValue e).run P w = .ok z w:=fun w=>by simp [zeroValue,typeInfo,hi,hz']
  have hlen:z.cells.size=(tyOf P e).size:=by rw [← hzl,hzero];simp
  split at hk
  ·rename_i T k0 pf rows hob
   obtain ⟨rfl,hoff,hk⟩:=hk
   have hob':=getD_arr hob
   simp only [Rp] at hx
   rcases hx with ⟨hp,rfl,rfl,he⟩ | ⟨b,s',cap,len,q,hp,hlen',he,hq⟩
   ·have ho':=h.heap i
    rw [hob,hp] at ho'
    have hrows:rows=[]:=ho'
    subst hrows
    refine ⟨_,hk,.tuple #[],w,ρ,?_,?_,by simp only [Rp]⟩
    ·unfold execOp
     simp only [ho,resolve,invoke,builtin,Sem.run_bind,Sem.run_pure,Result.andThen_ok,List.map_toArray,List.map_cons,List.map_nil]
     simp [Builtin.clear_,run_underlying hu,he]
    ·have:s.seth i (.arr T (tyOf P e).size pf (([]:List (List AV)).take 0++List.replicate 0 (tyOf P e).zero++([]:List (List AV)).drop (0+0)))=s:=by
      unfold St.seth
      simp only [List.take_nil,List.replicate_zero,List.drop_nil,List.append_nil]
      congr 1
      apply List.ext_getElem?
      intro j
      rw [List.getElem?_set]
      split
      ·rename_i hj;subst hj
       rw [if_pos (List.getElem?_eq_some_iff.1 hob').1,hob']
      ·rfl
     rw [this]
     exact h
   ·have ho':=h.heap i
    rw [hob,hp] at ho'
    obtain ⟨hk0,hlen0,vss,rest,hb,hr,hal',hl,hc,hmx⟩:=ho'
    subst hk0
    subst hlen0
    have hlens:=hr.lens hal'
    have hvl:=hr.length
    have hfl:vss.flatten.length=vss.length*(tyOf P e).size:=flatten_length hlens
    obtain ⟨zr,hzr⟩:∃ zr,zr=(List.replicate n (tyOf P e).zero):=⟨_,rfl⟩
    obtain ⟨nvs,hnvs⟩:∃ nvs,nvs=List.replicate n z.cells.toList:=⟨_,rfl⟩
    have hzrl:zr.length=n:=by rw [hzr];simp
    have hnl:nvs.length=n:=by rw [hnvs];simp
    have hnr:RpR w (Av fr.F ρ) (Pf pf ρ) zr nvs:=by
     rw [hzr,hnvs]
     refine RpR.mk (by simp) fun i x v hx hv=>?_
     rw [List.getElem?_replicate] at hx hv
     split at hx
     ·rename_i hi
      rw [if_pos hi] at hv
      cases hx;cases hv
      rw [hzero]
      exact Rps_cst1 w (Av fr.F ρ) (Pf pf ρ) z.cells.toList
     ·cases hx
    have hzal:AllLen (tyOf P e).size zr:=fun r hr=>by rw [hzr] at hr;rw [(List.mem_replicate.1 hr).2,hzl]
    have hnlens:∀ r∈nvs,r.length=(tyOf P e).size:=fun r hr=>by rw [hnvs] at hr;rw [(List.mem_replicate.1 hr).2];simpa using hlen
    rw [← hzr] at hk
    have hres:=h.setObj hob' hp (rows':=rows.take off++zr++rows.drop (off+n)) (vss:=vss.take off++nvs++vss.drop (off+n)) (rest:=rest)
     (((hr.take off).append hnr).append (hr.drop _)) (((allLen_take hal' off).append hzal).append (allLen_drop hal' _))
     (by
      rw [List.length_append,flatten_length (s:=(tyOf P e).size)]
      ·rw [List.length_append,List.length_append,List.length_take,List.length_drop,← hl,List.length_append,hfl]
       have e1:min off vss.length+nvs.length+(vss.length-(off+n))=vss.length:=by omega
       rw [e1]
      ·intro r hr'
       rcases List.mem_append.1 hr' with hr' | hr'
       ·rcases List.mem_append.1 hr' with hr' | hr'
        ·exact hlens r (List.mem_of_mem_take hr')
        ·exact hnlens r hr'
       ·exact hlens r (List.mem_of_mem_drop hr'))
     (by rw [List.length_append,List.length_append,List.length_take,List.length_drop];omega)
    have hcl:nvs.flatten.length=n*(tyOf P e).size:=by rw [flatten_length hnlens,hnl]
    have hcont:(vss.take off++nvs++vss.drop (off+n)).flatten++rest=(vss.flatten++rest).take (off*(tyOf P e).size)++nvs.flatten++(vss.flatten++rest).drop (off*(tyOf P e).size+nvs.flatten.length):=by
     rw [flatten_take hlens off (by omega),hcl,← Nat.add_mul,flatten_drop hlens (off+n) (by omega)]
     simp [List.append_assoc]
    have hone2:∀ v∈nvs.flatten,v.oneCell'=true:=RpR.oneCells hnr fun r hr=>by rw [hzr] at hr;rw [(List.mem_replicate.1 hr).2];exact hone
    have hzc:(Builtin.zeroCells z.cells n).toList=nvs.flatten:=by
     rw [hnvs]
     have:=rep_cells z.cells n
     rw [← this]
     rfl
    refine ⟨_,hk,.tuple #[],_,ρ,?_,hres,by simp only [Rp]⟩
    unfold execOp
    simp only [ho,resolve,invoke,builtin,Sem.run_bind,Sem.run_pure,Result.andThen_ok,List.map_toArray,List.map_cons,List.map_nil]
    by_cases hm0:n=0
    ·have hw:w.setRow b ((vss.take off++nvs++vss.drop (off+n)).flatten++rest).toArray=w:=by
      rw [hcont]
      subst hm0
      have:nvs=[]:=by rw [hnvs];rfl
      subst this
      simp only [List.flatten_nil,List.append_nil,List.length_nil,Nat.add_zero,List.take_append_drop]
      exact setRow_self w b _ T (0,0) hb
     rw [hw]
     subst hm0
     simp [Builtin.clear_,run_underlying hu,he]
    ·have hq':=hq (.inl (by omega))
     have hle:off*(tyOf P e).size+nvs.flatten.length≤(vss.flatten++rest).toArray.size:=by
      rw [List.size_toArray,hl,hcl,← Nat.add_mul]
      exact Nat.mul_le_mul_right _ (by omega)
     have hsc:=run_storeCells_at P b (off*(tyOf P e).size) T nvs.flatten 0 (vss.flatten++rest).toArray w hb (by simpa using hle) hone2
     rw [Nat.add_zero,List.toList_toArray,← hcont] at hsc
     simp only [he,hq']
     have hcp:(Builtin.clear_ #[t] o.type #[.slice (some ⟨b,off*(tyOf P e).size,none⟩) n (cap-off)]).run P w = .ok (.tuple #[]) (w.setRow b ((vss.take off++nvs++vss.drop (off+n)).flatten++rest).toArray):=by
      obtain ⟨n',rfl⟩:∃ n',n=n'+1:=⟨n-1,by omega⟩
      simp [Builtin.clear_,run_underlying hu,hzv,hzc,-List.flatten_append]
      rw [hsc]
      simp
     rw [hcp]
     rfl
  ·exact hk.elim
 ·exact hk.elim
end
end Go.Proofs.YtjmkfbhecgkbmaaGreat.Vm
