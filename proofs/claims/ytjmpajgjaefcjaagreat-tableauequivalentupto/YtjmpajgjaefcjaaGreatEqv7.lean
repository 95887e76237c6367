/-
  Part 7 of 9 of a proof.
-/
import Derived.Test.YtjmpajgjaefcjaaGreatEqv6
import Derived.Orders
import Derived.Below
import Derived.Laws.AppendOwn
import Derived.Laws.MakeOwn
import Derived.Laws.CopyRow
import Derived.Laws.Rows
import Derived.Laws.Cells
import Derived.Tactics
import Derived.Laws.BitsLemmas
import Derived.Maps.Range
import Derived.Carry
import Derived.Test.YtjmpajgjaefcjaaGreatProg
import Derived.Sort.Row
import Derived.Sort.Grow
import Derived.Shelf.Sort.Plain
import Derived.Shelf.Slices.In.SortNone
import Derived.Ground.NamesProg
set_option linter.unusedVariables false
set_option linter.unusedSimpArgs false
set_option maxRecDepth 100000

namespace Go.Proofs.YtjmpajgjaefcjaaGreat.Vm
open Go Go.RowKit
theorem sDb {G G':Prop} (h:G') (e:G=G':=by conv=>lhs;simp (disch:=omega) only [rowsOf,cNat,cN,St.ret,St.seth,Eff.app,Eff.wi,sepL,guardOf,St.known,objOf,List.set,sliceW,litW,copyW,lenOf,bnd,mxOk,ofCells,TI.isAgg,cellsOf,storable,AV.one,dead,laid,overlay,reduceCtorEq,Int.reduceLE,Int.reduceLT,Int.reduceSub,Int.reduceAdd,Nat.reduceMul,Int.reduceToNat,Nat.reducePow,Int.reduceNeg,Nat.reduceAdd,Nat.reduceLT,Nat.reduceLeDiff,sA,sB,Nat.reduceEqDiff,cQ,cD,tab_length,List.take_length,tab_drop,tab_take,tab_nil,rowD_all,rowD_one,rowD_pure,rowL_all,rowL_one,rowL_pure,rowQ_all,rowQ_one,rowQ_pure,rowM_all,rowM_one,rowM_pure,sT]):G:=e.mpr h
theorem sDbX {G G' P:Prop} (p:P) (h:G') (e:P→G=G':=by intro p;conv=>lhs;simp (disch:=omega) only [rowsOf,cNat,cN,St.ret,St.seth,Eff.app,Eff.wi,sepL,guardOf,St.known,objOf,List.set,sliceW,litW,copyW,lenOf,bnd,mxOk,ofCells,TI.isAgg,cellsOf,storable,AV.one,dead,laid,overlay,reduceCtorEq,Int.reduceLE,Int.reduceLT,Int.reduceSub,Int.reduceAdd,Nat.reduceMul,Int.reduceToNat,Nat.reducePow,Int.reduceNeg,Nat.reduceAdd,Nat.reduceLT,Nat.reduceLeDiff,sA,sB,Nat.reduceEqDiff,cQ,cD,tab_length,List.take_length,tab_drop,tab_take,tab_nil,rowD_all,rowD_one,rowD_pure,rowL_all,rowL_one,rowL_pure,rowQ_all,rowQ_one,rowQ_pure,rowM_all,rowM_one,rowM_pure,sT,p]):G:=(e p).mpr h
theorem sDbV {G G':Prop} (h:G') (e:G=G':=by conv=>lhs;simp (disch:=omega) only [rowsOf,cNat,cN,St.ret,St.seth,Eff.app,Eff.wi,sepL,guardOf,St.known,objOf,List.set,sliceW,litW,copyW,lenOf,bnd,mxOk,ofCells,TI.isAgg,cellsOf,storable,AV.one,dead,laid,overlay,reduceCtorEq,Int.reduceLE,Int.reduceLT,Int.reduceSub,Int.reduceAdd,Nat.reduceMul,Int.reduceToNat,Nat.reducePow,Int.reduceNeg,Nat.reduceAdd,Nat.reduceLT,Nat.reduceLeDiff,sA,sB,Nat.reduceEqDiff,cQ,cD,tab_length,List.take_length,tab_drop,tab_take,tab_nil,rowD_all,rowD_one,rowD_pure,rowL_all,rowL_one,rowL_pure,rowQ_all,rowQ_one,rowQ_pure,rowM_all,rowM_one,rowM_pure,sT,view_sref,viewRef,view_agg,views_cons,views_nil,view_bool,view_int,view_sl,view_nils,view_str,view_tup,view_nilif]):G:=e.mpr h
theorem aDb {G G':Prop} (h:G') (f:Wr G'→G:=by intro h;(repeat (first|(refine W_seqV fun K hK=>?_;(try (refine sDb ?_;try exact True.intro));(repeat refine aI ?_);refine hK _ ?_;clear hK K)|(refine W_seqR fun K hK=>?_;(try (refine sDb ?_;try exact True.intro));(repeat refine aI ?_);refine hK _ ?_;clear hK K)|(refine W_seqD mixed [] (by kernel_rfl) fun K hK=>?_;(try (refine sDb ?_;try exact True.intro));(repeat refine aI ?_);refine hK _ ?_;clear hK K)));exact h.out):G:=f ⟨h⟩
def rowD (d:DD):List AV:=d.cells
theorem rowD_all (f:List DD):AllLen 6 (tab rowD f):=tab_all (k:=6) (fun _=>rfl) f
theorem rowD_one (f:List DD):AllOne (tab rowD f):=tab_one (fun _=>rfl) f
theorem rowD_pure (f:List DD):AllPure (tab rowD f):=tab_pure (fun _=>rfl) f
instance:Inhabited DD:=⟨zeroD0⟩
theorem zeroD0_v':zeroD0.v=(0,0):=by show (zeroR.v,zeroR.v)=_;rw [zeroR_v]
def valD (ds:List DD) (v:Int):DD:=if 0≤v∧v<(ds.length:Int) then ds.getD v.toNat default else zeroD0
structure DsOk (ds:List DD):Prop where
 ok:∀ d∈ds,d.ok
 sa:nbl (ds.map fun d=>d.a.v)≤67108864
 sb:nbl (ds.map fun d=>d.b.v)≤67108864
def evd (ds:List DD) (f:List (Int × Rat)):Rat × Rat:=(ev2 (asg (ds.map fun d=>d.a.v)) f,ev2 (asg (ds.map fun d=>d.b.v)) f)
theorem ev2_snoc (x:Int→Rat) (f:List (Int × Rat)) {i:Nat} (h:i<f.length):ev2 x (f.take (i+1))=ev2 x (f.take i)+(f.getD i default).2*x (f.getD i default).1:=by
 rw [List.take_succ_eq_append_getElem h,ev2_append]
 simp only [ev2]
 have:f.getD i default=f[i]:=by simp [List.getD_eq_getElem?_getD,h]
 rw [this]
 grind
theorem nbs_pre (f:List (Int × Rat)) (i:Nat):nbs (f.take i)≤nbs f:=by
 induction f generalizing i with
 | nil=>simp
 | cons p f ih =>
  cases i with
  | zero=>simp [nbs]
  | succ i=>have:=ih i;simp only [List.take_succ_cons,nbs];omega
theorem asg_val (g:DD→Rat) (hg:g zeroD0=0) (ds:List DD) (v:Int):asg (ds.map g) v=g (valD ds v):=by
 unfold asg valD
 by_cases h0:0≤v
 ·rw [if_pos h0]
  by_cases h1:v<(ds.length:Int)
  ·rw [if_pos ⟨h0,h1⟩]
   have h3:v.toNat<ds.length:=by omega
   simp [List.getD_eq_getElem?_getD,h3]
  ·rw [if_neg (fun h=>h1 h.2),List.getD_eq_getElem?_getD,List.getElem?_eq_none (by rw [List.length_map];omega),hg];rfl
 ·rw [if_neg h0,if_neg (fun h=>h0 h.1),hg]
theorem evd_step (ds:List DD) (f:List (Int × Rat)) {i:Nat} (h:i<f.length):evd ds (f.take (i+1))=dadd (evd ds (f.take i)) (dscale (f.getD i default).2 (valD ds (f.getD i default).1).v):=by
 unfold evd
 rw [ev2_snoc _ _ h,ev2_snoc _ _ h,asg_val (fun d=>d.a.v) zeroR_v,asg_val (fun d=>d.b.v) zeroR_v]
 rfl
theorem valD_ok {ds:List DD} (h:DsOk ds) (v:Int):(valD ds v).ok∧nb2 (valD ds v).v≤67108865:=by
 have h1:=nb_asg (ds.map fun d=>d.a.v) v
 have h2:=nb_asg (ds.map fun d=>d.b.v) v
 rw [asg_val (fun d=>d.a.v) zeroR_v] at h1
 rw [asg_val (fun d=>d.b.v) zeroR_v] at h2
 refine ⟨?_,nb2_le (by have:=h.sa;show nb (valD ds v).a.v≤_;omega) (by have:=h.sb;show nb (valD ds v).b.v≤_;omega)⟩
 unfold valD
 split
 ·rename_i hv
  have h3:v.toNat<ds.length:=by omega
  exact h.ok _ (by simp [List.getD_eq_getElem?_getD,h3])
 ·exact ⟨zeroR_ok,zeroR_ok⟩
theorem evd_nb {ds:List DD} (h:DsOk ds) (f:List (Int × Rat)) (hs:nbs f≤68157440) (i:Nat):nb2 (evd ds (f.take i))≤203423745:=by
 have h1:=nb_value (ds.map fun d=>d.a.v) (f.take i)
 have h2:=nb_value (ds.map fun d=>d.b.v) (f.take i)
 have h3:=nbs_pre f i
 have h4:=h.sa
 have h5:=h.sb
 exact nb2_le (by show nb (ev2 _ _)≤_;omega) (by show nb (ev2 _ _)≤_;omega)
set_option maxHeartbeats 8000000 in
theorem deltasM_gen (ds:List DD) (e:List (Int × RR)) (hnv:∀ i,nb2 (evd ds ((vals e).take i))≤4294967296) (hvo:∀ v,(valD ds v).ok∧nb2 (valD ds v).v≤4294967296) (hok:∀ p∈e,p.2.ok) (hel:(vals e).length≤4294967296) (hmem:∀ p∈e,nb p.2.v≤4294967296):Pure Tryz.prog 37 [.sl (tab rowM e),.sl (tab rowD ds)] (·=cD (evd ds (vals e))):=by
 have hz:=f6zero_ok
 have hof:=f5of_ok (qr 0) (qr_ok (by rw [nb_zero];omega))
 rw [qr_v] at hof
 have hvl:=vals_length e
 have hE0:evd ds ((vals e).take 0)=(0,0):=rfl
 have hEl:evd ds ((vals e).take e.length)=evd ds (vals e):=by rw [← hvl,List.take_length]
 have hst:∀ i,i<e.length→evd ds ((vals e).take (i+1))=dadd (evd ds ((vals e).take i)) (dscale (e.getD i default).2.v (valD ds (e.getD i default).1).v):=fun i hi=>by
  have:=@evd_step ds (vals e) i (by omega)
  rw [show (vals e).getD i default=((e.getD i default).1,(e.getD i default).2.v) by simp [vals,List.getD_eq_getElem?_getD,hi]] at this
  exact this
 rw [← hEl]
 generalize hEA:(fun i=>evd ds ((vals e).take i))=EA at *
 have hEA':∀ i,evd ds ((vals e).take i)=EA i:=fun i=>congrFun hEA i
 simp only [hEA'] at *
 clear hEA hEA' hEl
 simp only [RR.av,qr,cD,cQ] at hof hz
 (refine pureW Tryz.func37 rfl (rs:=[Go.ResultVar.cell 4 58]) rfl (n:=48) rfl ?_;simp only [List.length_cons,List.length_nil,List.replicate,List.cons_append,List.nil_append])
 (refine aDb ?_)
 refine W_seq ?_
 ((refine W_regV ?_);intro K hK;(refine sDb ?_))
 (refine ⟨by kernel_rfl,_,.pure rfl (hz),?_⟩;(try (refine sDb ?_)))
 (refine ⟨by kernel_rfl,_,.pure rfl (hof),?_⟩;(try (refine sDb ?_)))
 (refine hK _ ?_;clear hK K)
 simp only [cD,thenW]
 refine W_seq ?_
 refine W_seq ?_
 ((refine W_regV ?_);intro K hK;(refine sDb ?_))
 (refine hK _ ?_;clear hK K)
 refine W_block (W_loop (fun t:{t:Nat // t≤e.length} =>
   ⟨[.sl (tab rowM e),.sl (tab rowD ds),.any,.any,.ptr 4 0 0,.ptr 5 0 0,.int .i64 t.1,.any,.any,.any,.any,.any,.any,.any,.any,.any,.any,.any,.any,.any,.any,.any,.any,.any,.any,.any,.any,.any,.any,.any,.any,.any,.any,.any,.any,.any,.any,.any,.any,.any,.any,.any,.any,.any,.any,.any,.any,.any],[.dead,.dead,.dead,.dead,.arr 58 6 false [[.bool false,.nils,.nils,.bool false,.nils,.nils]],.arr 58 6 false [[.bool (decide ((EA t.1).1.num<0)),.sl (u32s (limbs (EA t.1).1.num.natAbs)),.sl (u32s (limbs (EA t.1).1.den)),.bool (decide ((EA t.1).2.num<0)),.sl (u32s (limbs (EA t.1).2.num.natAbs)),.sl (u32s (limbs (EA t.1).2.den))]],.dead,.dead,.dead,.dead,.dead,.dead,.dead,.dead,.dead,.dead,.dead,.dead,.dead,.dead,.dead,.dead,.dead,.dead,.dead,.dead,.dead,.dead,.dead,.dead,.dead,.dead,.dead,.dead,.dead,.dead,.dead,.dead,.dead,.dead,.dead,.dead,.dead,.dead,.dead,.dead,.dead,.dead]⟩) (fun t=>e.length-t.1)
   ⟨0,by omega⟩ (Le_of (by simp [leE]) (by simp [hE0])) fun t=>?_)
 obtain ⟨i,hi⟩:=t
 dsimp only
 by_cases hlt:i<e.length
 ·have hXi:(tab rowM e).getD i []=rowM (e.getD i default):=tab_getD hlt
  have hci:=hok _ (getD_mem hlt)
  have hsi:=hst i hlt
  have hni:=hnv i
  have hem:=hmem (e.getD i default) (getD_mem hlt)
  generalize e.getD i default=m at *
  obtain ⟨v,c⟩:=m
  dsimp only at *
  obtain ⟨hv1,hv2⟩:=hvo v
  simp only [rowM] at hXi
  refine W_seq ?_
  ((refine W_seqV ?_);intro K hK;(refine sDbX hlt ?_))
  (refine hK _ ?_;clear hK K)
  (refine W_ct rfl ?_)
  refine W_skip ?_
  simp only [thenW]
  refine W_seq ?_
  refine W_block ?_
  by_cases hv0:0≤v
  ·by_cases hv3:v<(ds.length:Int)
   ·have hYi:(tab rowD ds).getD v.toNat []=rowD (ds.getD v.toNat default):=tab_getD (by omega)
    have hvd:valD ds v=ds.getD v.toNat default:=if_pos ⟨hv0,hv3⟩
    rw [hvd] at hsi hv1 hv2
    generalize ds.getD v.toNat default=y at *
    have hsc:=f5scale_ok c y hci hv1
    have hsn:=nb2_scale c.v y.v
    have had:=f5add_ok (dq (EA i)) (dq (dscale c.v y.v)) (dq_ok (by omega)) (dq_ok (by omega))
    rw [dq_v,dq_v,← hsi,dq_av,dq_av] at had
    generalize dscale c.v y.v=dm at *
    simp only [rowD,DD.cells] at hYi
    simp only [RR.av,qr,cD,DD.av,DD.cells] at hsc had
    ((refine W_seqV ?_);intro K hK;(refine sDbX (And.intro hlt (And.intro hXi (And.intro hv0 hv3))) ?_))
    (refine hK _ ?_;clear hK K)
    (refine W_ct rfl ?_)
    ((refine W_regD mixed [] (by kernel_rfl) ?_);intro K hK;(refine sDbX (And.intro hXi (And.intro hYi (And.intro hlt (And.intro hv0 hv3)))) ?_))
    (refine ⟨by kernel_rfl,_,.pure rfl (hsc),?_⟩;(try (refine sDb ?_)))
    (refine ⟨by kernel_rfl,_,.pure rfl (had),?_⟩;(try (refine sDb ?_)))
    (refine hK _ ?_;clear hK K)
    simp only [blockW,thenW]
    ((refine W_regV ?_);intro K hK;(refine sDb ?_))
    (refine hK _ ?_;clear hK K)
    simp only [blockW,thenW]
    refine ⟨⟨i+1,by omega⟩,Le_drop (by simp [leE]) (by simp [leH]) rfl rfl,?_⟩
    dsimp only
    omega
   ·have hvd:valD ds v=zeroD0:=if_neg fun h=>hv3 h.2
    have hnx:EA (i+1)=EA i:=by
     rw [hsi,hvd,zeroD0_v'];simp [dadd,dscale,Rat.mul_zero,Rat.add_zero]
    ((refine W_seqV ?_);intro K hK;(refine sDbX (And.intro hlt (And.intro hXi (And.intro hv0 hv3))) ?_))
    (refine hK _ ?_;clear hK K)
    (refine W_cf rfl ?_)
    refine W_skip ?_
    simp only [blockW,thenW]
    ((refine W_regV ?_);intro K hK;(refine sDb ?_))
    (refine hK _ ?_;clear hK K)
    simp only [blockW,thenW]
    refine ⟨⟨i+1,by omega⟩,Le_drop (by simp [leE]) (by simp [leH,hnx]) rfl rfl,?_⟩
    dsimp only
    omega
  ·have hvd:valD ds v=zeroD0:=if_neg fun h=>hv0 h.1
   have hnx:EA (i+1)=EA i:=by
    rw [hsi,hvd,zeroD0_v'];simp [dadd,dscale,Rat.mul_zero,Rat.add_zero]
   ((refine W_seqV ?_);intro K hK;(refine sDbX (And.intro hlt (And.intro hXi hv0)) ?_))
   (refine hK _ ?_;clear hK K)
   (refine W_cf rfl ?_)
   refine W_skip ?_
   simp only [blockW,thenW]
   ((refine W_regV ?_);intro K hK;(refine sDb ?_))
   (refine hK _ ?_;clear hK K)
   simp only [blockW,thenW]
   refine ⟨⟨i+1,by omega⟩,Le_drop (by simp [leE]) (by simp [leH,hnx]) rfl rfl,?_⟩
   dsimp only
   omega
 ·obtain rfl:i=e.length:=by omega
  refine W_seq ?_
  ((refine W_seqV ?_);intro K hK;(refine sDb ?_))
  (refine hK _ ?_;clear hK K)
  (refine W_cf rfl ?_)
  refine W_exit ?_
  simp only [thenW,blockW,if_true]
  ((refine W_seqV ?_);intro K hK;(refine sDb ?_))
  (refine hK _ ?_;clear hK K)
  refine W_ret ?_
  (refine qG ?_;try exact True.intro);try (refine sDbV ?_;try exact True.intro)
theorem evd_gen {ds:List DD} (h:DsOk ds) (f:List (Int × Rat)) (hs:nbs f≤68157440):(∀ i,nb2 (evd ds (f.take i))≤4294967296)∧(∀ v,(valD ds v).ok∧nb2 (valD ds v).v≤4294967296) :=
 ⟨fun i=>Nat.le_trans (evd_nb h f hs i) (by omega),fun v=>⟨(valD_ok h v).1,Nat.le_trans (valD_ok h v).2 (by omega)⟩⟩
theorem nbs_each {f:List (Int × Rat)} (h:nbs f≤4294967296):f.length≤4294967296∧∀ p∈f,nb p.2≤4294967296 :=
 ⟨Nat.le_trans (nbs_len f) h,fun p hp=>Nat.le_trans (Nat.le_trans (nbv_mem hp) (nbv_le_nbs _ _)) h⟩
def SortInts (P:Program) (g:FuncId):Prop :=
 (∀ (blk off cap:Nat) (zs:List Int) (w:World),Go.Sort.Holds (Value.int .i64) w blk off zs.toArray→blk<w.heap.size→zs.length<4611686018427387904 →
  Calls P g #[.slice (some ⟨blk,off,none⟩) zs.length cap] w fun e w'=>e = .returned (.tuple #[])∧∃ n os,w'=Go.Sort.grow (Go.Sort.putRow (Value.int .i64) (Go.Sort.ahead w n) blk off (zs.mergeSort fun x y=>decide (x≤y)).toArray) os) ∧
 (∀ (p:Option Addr) (cap:Nat) (w:World),Calls P g #[.slice p 0 cap] w fun e w'=>e = .returned (.tuple #[])∧w'=w)
theorem rpR_ints {w:World} {A:Nat→Prop} {ρ:Pl}:∀ (l:List Int) (vss:List (List Value)),RpR w A ρ (l.map fun x=>[AV.int .i64 x]) vss↔vss=l.map fun x=>[Value.int .i64 x]
 | [],vss=>by simp [RpR]
 | x::l,vss=>by
  simp only [List.map_cons,RpR,Rps,Rp,rpR_ints l]
  constructor
  ·rintro ⟨vs,uss,rfl,⟨v,us,rfl,rfl,rfl⟩,rfl⟩
   rfl
  ·rintro rfl
   exact ⟨_,_,rfl,⟨_,_,rfl,rfl,rfl⟩,rfl⟩
theorem flat_ints (l:List Int):(l.map fun x=>[Value.int .i64 x]).flatten=l.map (Value.int .i64):=by
 induction l with
 | nil=>rfl
 | cons x l ih=>simp [ih]
theorem put_ints (l m:List Int) (rest:List Value) (h:m.length=l.length) :
  Go.Sort.putCells (Value.int .i64) 0 m.toArray (l.map (Value.int .i64)++rest).toArray=(m.map (Value.int .i64)++rest).toArray:=by
 unfold Go.Sort.putCells
 apply Array.ext_getElem?
 intro k
 rw [Array.getElem?_mapIdx]
 simp only [List.size_toArray,Nat.zero_le,true_and,Nat.zero_add,Nat.sub_zero,List.getElem?_toArray]
 by_cases hk:k<m.length
 ·rw [List.getElem?_append_left (by simp;omega),List.getElem?_append_left (by simp;omega)]
  simp only [hk,if_true,List.getElem?_map]
  have h1:l[k]?=some (l[k]'(by omega)):=by simp
  have h2:m[k]?=some (m[k]'hk):=by simp
  rw [h1,h2]
  simp [List.getElem?_eq_getElem hk]
 ·simp only [hk,if_false]
  rw [List.getElem?_append_right (by simp;omega),List.getElem?_append_right (by simp;omega)]
  simp [h]
theorem call_sort_of {P:Program} {g:FuncId} (hs:SortInts P g) {pins:List Nat} {s:St} {i:Nat} {T:TypeId} {l:List Int} {K:AV→St→Prop} (hi:s.hp[i]?=some (.arr T 1 true (l.map fun x=>[AV.int .i64 x]))) (hl:l.length<4611686018427387904)
  (hk:K (.tup []) (s.seth i (.arr T 1 true ((l.mergeSort fun x y=>decide (x≤y)).map fun x=>[AV.int .i64 x])))):CallOk P pins g [.sref i 0 l.length] s K:=by
 intro fr ρ a w vals hp hr hv
 have hil:i<s.hp.length:=(List.getElem?_eq_some_iff.1 hi).1
 have hob:s.hp.getD i .dead = .arr T 1 true (l.map fun x=>[AV.int .i64 x]):=by simp [List.getD_eq_getElem?_getD,hi]
 simp only [Rps] at hv
 obtain ⟨v,us,rfl,hv,rfl⟩:=hv
 have htup:∀ w' ρ',Rp w' (Av fr.F ρ') ρ' (.tup []) (.tuple #[]):=fun w' ρ'=>by
  simp only [Rp,Rps]
  exact ⟨[],rfl,rfl⟩
 have hnil:l=[]→s.seth i (.arr T 1 true ((l.mergeSort fun x y=>decide (x≤y)).map fun x=>[AV.int .i64 x]))=s:=by
  rintro rfl
  unfold St.seth
  have:s.hp.set i (.arr T 1 true [])=s.hp:=by
   refine List.ext_getElem? fun j=>?_
   rw [List.getElem?_set]
   split
   ·rename_i hj;subst hj;rw [hi];rfl
   ·rfl
  simp [this]
 by_cases h0:l=[]
 ·have hvs:∃ p cap,v = .slice p 0 cap:=by
   subst h0
   simp only [Rp] at hv
   rcases hv with ⟨_,_,_,rfl⟩ | ⟨b,s',cap,len,x,_,_,rfl,_⟩
   ·exact ⟨_,_,rfl⟩
   ·exact ⟨_,_,rfl⟩
  obtain ⟨p,cap,rfl⟩:=hvs
  refine (hs.2 p cap w).mono fun e w' he=>?_
  obtain ⟨rfl,rfl⟩:=he
  rw [hnil h0] at hk
  exact ⟨_,_,s,ρ,rfl,hk,hr,htup _ _⟩
 ·have hlen:0<l.length:=by cases l with | nil=>exact absurd rfl h0 | cons _ _=>simp
  have ho:=hr.heap i
  rw [hob] at ho
  simp only [Rp] at hv
  rcases hv with ⟨_,_,h1,_⟩ | ⟨b,s',cap,len,x,h1,h2,rfl,h3⟩
  ·omega
  ·rw [h1] at ho
   obtain ⟨rfl,hlen',vss,rest,hb,hrr,hal,hfl,hcap,hmax⟩:=ho
   rw [rpR_ints] at hrr
   subst hrr
   obtain rfl:=h3 (.inr trivial)
   rw [Nat.zero_mul,Nat.sub_zero]
   rw [flat_ints] at hb hfl
   have hbw:b<w.heap.size:=(Array.getElem?_eq_some_iff.1 hb).1
   have hH:Go.Sort.Holds (Value.int .i64) w b 0 l.toArray:=by
    intro j hj
    have hj':j<l.length:=by simpa using hj
    have hc:(l.map (Value.int .i64)++rest)[j]?=some (.int .i64 l[j]):=by
     rw [List.getElem?_append_left (by simpa using hj'),List.getElem?_map,List.getElem?_eq_getElem hj']
     rfl
    constructor
    ·unfold World.cell?
     simp only [Nat.zero_add,hb]
     simp [hc,hj']
    ·unfold World.frozen?
     simp [hb]
   refine (hs.1 b 0 cap l w hH hbw hl).mono fun e w' he=>?_
   obtain ⟨rfl,n,os,rfl⟩:=he
   have hm:(l.mergeSort fun x y=>decide (x≤y)).length=l.length:=List.length_mergeSort _
   generalize (l.mergeSort fun x y=>decide (x≤y))=m at *
   have hp':ρ i=some (.blk b 1 cap (l.map fun x=>[AV.int .i64 x]).length):=by rw [h1,hlen']
   have hset:=hr.setObj hi hp' (rows':=m.map fun x=>[AV.int .i64 x]) (vss:=m.map fun x=>[Value.int .i64 x]) (rest:=rest) ((rpR_ints _ _).2 rfl) (by intro r hr;obtain ⟨x,_,rfl⟩:=List.mem_map.1 hr;rfl) (by rw [flat_ints];simp only [List.length_append,List.length_map] at hfl ⊢;omega) (by simp [hm])
   rw [flat_ints] at hset
   have hbel:Below (w.setRow b (m.map (Value.int .i64)++rest).toArray).heap.size (w.setRow b (m.map (Value.int .i64)++rest).toArray) (Go.Sort.grow (Go.Sort.putRow (Value.int .i64) (Go.Sort.ahead w n) b 0 m.toArray) os):=by
    refine ⟨rfl,rfl,rfl,?_,fun k hk=>?_⟩
    ·simp [Go.Sort.grow,Go.Sort.putRow,Go.Sort.mapBlock,Go.Sort.ahead]
    ·have hk':k<w.heap.size:=by simpa using hk
     show (w.heap.modify b _++os)[k]?=_
     rw [Array.getElem?_append_left (by simpa using hk'),Array.getElem?_modify]
     by_cases hkb:b=k
     ·subst hkb
      rw [if_pos rfl,setRow_heap_same _ hb,hb]
      simp only [Option.map_some,Go.Sort.onCells]
      rw [put_ints l m rest hm]
     ·rw [if_neg hkb,setRow_other _ _ _ _ (Ne.symm hkb)]
   exact ⟨_,_,_,ρ,rfl,hk,(hset.below hbel).1,htup _ _⟩
theorem findA_cons {q:IntKind} {k a:Int} {x:AV} {l:List AV} {rs:List (List AV)} {i:Nat}:findA (.int q) (.int .i64 k) ((.int .i64 a::l)::rs) i=if k=a then some (some i) else findA (.int q) (.int .i64 k) rs (i+1):=by
 rw [findA]
 simp only [if_true]
theorem findA_go (q:IntKind) (k:Int):∀ (M:TM) (i:Nat),findA (.int q) (.int .i64 k) (tab rowU M) i=some ((idxM M k).map (·+i))
 | [],i=>rfl
 | r::M,i=>by
  have ih:=findA_go q k M (i+1)
  rw [tab_cons]
  show findA (.int q) (.int .i64 k) ((.int .i64 r.1::[.sl (tab rowQ r.2)])::tab rowU M) i=_
  rw [findA_cons (x := .any),ih]
  unfold idxM
  rw [List.findIdx?_cons]
  by_cases h:k=r.1
  ·rw [if_pos h]
   simp [h]
  ·rw [if_neg h]
   have:(r.1 == k)=false:=by simp;omega
   rw [this]
   simp only [Bool.false_eq_true,if_false,Option.map_map]
   congr 2
   funext x
   simp only [Function.comp]
   omega
theorem findA_tab {q:IntKind} {k:Int} {M:TM}:findA (.int q) (.int .i64 k) (tab rowU M) 0=some (idxM M k):=by
 rw [findA_go]
 simp
theorem rowU_getD {M:TM} {j:Nat} (h:j<M.length):(tab rowU M).getD j []=rowU (M.getD j default):=tab_getD h
theorem range_snoc (n:Nat):List.range n++[n]=List.range (n+1):=List.range_succ.symm
theorem range_get {n j x:Nat} (h:(List.range n)[j]?=some x):j<n∧x=j:=by
 rw [List.getElem?_eq_some_iff] at h
 obtain ⟨h1,h2⟩:=h
 simp at h1 h2
 exact ⟨h1,h2.symm⟩
theorem nodup_range_le {n:Nat} {s:List Nat} (hn:s.Nodup) (h:∀ x∈s,x<n):s.length≤n:=by
 have:=hn.length_le_of_subset (l₂:=List.range n) (fun x hx=>List.mem_range.2 (h x hx))
 simpa using this
theorem pure_sl {rows:List (List AV)}:(AV.sl rows).pure=true:=rfl
def atB (bs:List Nat) (M:TM) (x:Nat):Int × List (Int × Rat):=M.getD (bs.idxOf x) default
theorem atB_of {bs:List Nat} (hn:bs.Nodup) {M:TM} {j x:Nat} (h:bs[j]?=some x):atB bs M x=M.getD j default:=by
 obtain ⟨h1,h2⟩:=List.getElem?_eq_some_iff.1 h
 unfold atB
 rw [← h2,List.Nodup.idxOf_getElem hn]
theorem map_atB {bs:List Nat} (hn:bs.Nodup) {M:TM} (hl:bs.length=M.length):bs.map (atB bs M)=M:=by
 refine List.ext_getElem (by simpa using hl) fun j h1 h2=>?_
 rw [List.getElem_map,atB_of hn (j:=j) (by simp at h1;simp [h1])]
 simp [List.getD_eq_getElem?_getD,h2]
theorem seen_perm {bs seen:List Nat} (hn:bs.Nodup) (hs:seen.Nodup) (h1:∀ x∈seen,x∈bs) (h2:∀ x∈bs,x∈seen):seen.Perm bs :=
 (List.perm_ext_iff_of_nodup hs hn).2 fun x=>⟨h1 x,h2 x⟩
theorem seen_rows {bs seen:List Nat} {M:TM} (hn:bs.Nodup) (hl:bs.length=M.length) (hs:seen.Nodup) (h1:∀ x∈seen,x∈bs) (h2:∀ x∈bs,x∈seen):(seen.map (atB bs M)).Perm M:=by
 have:=(seen_perm hn hs h1 h2).map (atB bs M)
 rwa [map_atB hn hl] at this
theorem seen_keys {bs seen:List Nat} {M:TM} (hn:bs.Nodup) (hl:bs.length=M.length) (hs:seen.Nodup) (h1:∀ x∈seen,x∈bs) (h2:∀ x∈bs,x∈seen):(seen.map fun x=>(atB bs M x).1).Perm (keys M):=by
 have:=(seen_rows hn hl hs h1 h2).map (·.1)
 rwa [List.map_map] at this
theorem seen_le {bs seen:List Nat} (hs:seen.Nodup) (h1:∀ x∈seen,x∈bs):seen.length≤bs.length:=hs.length_le_of_subset h1
structure Seen (bs:List Nat) (seen:List Nat):Prop where
 nodup:seen.Nodup
 sub:∀ x∈seen,x∈bs
theorem Seen.nil (bs:List Nat):Seen bs []:=⟨List.nodup_nil,by simp⟩
theorem Seen.snoc {bs seen:List Nat} (h:Seen bs seen) {j x:Nat} (hj:bs[j]?=some x) (hx:x∉seen):Seen bs (seen++[x]):=by
 refine ⟨?_,fun y hy=>?_⟩
 ·rw [List.nodup_append]
  refine ⟨h.nodup,by simp,?_⟩
  rintro a ha b hb rfl
  simp at hb
  subst hb
  exact hx ha
 ·rcases List.mem_append.1 hy with hy | hy
  ·exact h.sub y hy
  ·simp at hy;subst hy;exact List.mem_of_getElem? hj
theorem Seen.lt {bs seen:List Nat} (h:Seen bs seen) {j x:Nat} (hj:bs[j]?=some x) (hx:x∉seen):bs.length-(seen++[x]).length<bs.length-seen.length:=by
 have:=seen_le (h.snoc hj hx).nodup (h.snoc hj hx).sub
 simp at *
 omega
theorem births_lt {bs:List Nat} {j x:Nat} (h:bs[j]?=some x):j<bs.length:=(List.getElem?_eq_some_iff.1 h).1
def wholeF (b:Int) (f:List (Int × Rat)):List (Int × Rat):=subF f [(b,1)]
def solvF (b:Int) (f:List (Int × Rat)) (o:Int):List (Int × Rat):=scaleF (-(coef (wholeF b f) o)⁻¹) (delF (wholeF b f) o)
def pivP (M:TM) (at_:Nat) (o:Int) (g:List (Int × Rat)):TM:=(M.eraseIdx at_).map (fun r=>(r.1,putF r.2 o g))++[(o,g)]
def pivR (M:TM) (at_:Nat) (o:Int) (g:List (Int × Rat)):TM:=(M.take at_).map (fun r=>(r.1,putF r.2 o g))++(o,g)::(M.drop (at_+1)).map (fun r=>(r.1,putF r.2 o g))
theorem coef_whole (b:Int) (f:List (Int × Rat)) (x:Int):coef (wholeF b f) x=coef f x-if x=b then 1 else 0:=by
 unfold wholeF
 rw [coef_sub]
 simp only [coef,Rat.add_zero]
 by_cases h:x=b
 ·rw [if_pos h,if_pos h.symm]
 ·rw [if_neg h,if_neg (Ne.symm h)]
theorem whole_nf (b:Int) (f:List (Int × Rat)):NF (wholeF b f):=NF.sub _ _
theorem NF.del {l:List (Int × Rat)} (h:NF l) (v:Int):NF (delF l v):=⟨h.lt.filter _,fun p hp=>h.nz p (List.mem_filter.1 hp).1⟩
theorem solv_nf {b:Int} {f:List (Int × Rat)} {o:Int} (h:coef (wholeF b f) o≠0):NF (solvF b f o):=by
 refine ((whole_nf b f).del o).scale ?_
 grind
theorem keys_pivP {M:TM} {at_:Nat} {o:Int} {g:List (Int × Rat)}:keys (pivP M at_ o g)=(keys M).eraseIdx at_++[o]:=by
 unfold pivP
 rw [keys_append]
 have:∀ (l:TM) (k:Nat),(l.eraseIdx k).map (·.1)=(l.map (·.1)).eraseIdx k:=by
  intro l
  induction l with
  | nil=>intro k;cases k <;> rfl
  | cons x l ih=>intro k;cases k with
   | zero=>rfl
   | succ k=>simp [ih]
 simp [keys,List.map_map,Function.comp_def,this]
theorem pivP_nodup {M:TM} (hn:(keys M).Nodup) {at_:Nat} {o:Int} (ho:o∉keys M) {g:List (Int × Rat)}:(keys (pivP M at_ o g)).Nodup:=by
 rw [keys_pivP,List.nodup_append]
 refine ⟨hn.sublist (List.eraseIdx_sublist _ _),by simp,?_⟩
 rintro a ha b hb rfl
 simp at hb
 subst hb
 exact ho (List.mem_of_mem_eraseIdx ha)
theorem sTc {G G':Prop} (h:G') (e:G=G':=by conv=>lhs;simp (disch:=omega) only [rowsOf,cNat,cN,St.ret,St.seth,Eff.app,Eff.wi,sepL,guardOf,St.known,objOf,List.set,sliceW,litW,copyW,lenOf,bnd,mxOk,ofCells,TI.isAgg,cellsOf,storable,AV.one,dead,laid,overlay,reduceCtorEq,Int.reduceLE,Int.reduceLT,Int.reduceSub,Int.reduceAdd,Nat.reduceMul,Int.reduceToNat,Nat.reducePow,Int.reduceNeg,Nat.reduceAdd,Nat.reduceLT,Nat.reduceLeDiff,sA,sB,cQ,rowQ,rowM,tab_length,List.take_length,List.length_append,tab_drop,tab_take,tab_append,tab_nil,rowQ_all,rowQ_one,rowQ_pure,rowM_all,rowM_one,rowM_pure,i64s_getD,i64s_length,i64s_all,sT]):G:=e.mpr h
theorem sTcX {G G' P:Prop} (p:P) (h:G') (e:P→G=G':=by intro p;conv=>lhs;simp (disch:=omega) only [rowsOf,cNat,cN,St.ret,St.seth,Eff.app,Eff.wi,sepL,guardOf,St.known,objOf,List.set,sliceW,litW,copyW,lenOf,bnd,mxOk,ofCells,TI.isAgg,cellsOf,storable,AV.one,dead,laid,overlay,reduceCtorEq,Int.reduceLE,Int.reduceLT,Int.reduceSub,Int.reduceAdd,Nat.reduceMul,Int.reduceToNat,Nat.reducePow,Int.reduceNeg,Nat.reduceAdd,Nat.reduceLT,Nat.reduceLeDiff,sA,sB,cQ,rowQ,rowM,tab_length,List.take_length,List.length_append,tab_drop,tab_take,tab_append,tab_nil,rowQ_all,rowQ_one,rowQ_pure,rowM_all,rowM_one,rowM_pure,i64s_getD,i64s_length,i64s_all,sT,p]):G:=(e p).mpr h
theorem sTcV {G G':Prop} (h:G') (e:G=G':=by conv=>lhs;simp (disch:=omega) only [rowsOf,cNat,cN,St.ret,St.seth,Eff.app,Eff.wi,sepL,guardOf,St.known,objOf,List.set,sliceW,litW,copyW,lenOf,bnd,mxOk,ofCells,TI.isAgg,cellsOf,storable,AV.one,dead,laid,overlay,reduceCtorEq,Int.reduceLE,Int.reduceLT,Int.reduceSub,Int.reduceAdd,Nat.reduceMul,Int.reduceToNat,Nat.reducePow,Int.reduceNeg,Nat.reduceAdd,Nat.reduceLT,Nat.reduceLeDiff,sA,sB,cQ,rowQ,rowM,tab_length,List.take_length,List.length_append,tab_drop,tab_take,tab_append,tab_nil,rowQ_all,rowQ_one,rowQ_pure,rowM_all,rowM_one,rowM_pure,i64s_getD,i64s_length,i64s_all,sT,view_sref,viewRef,view_agg,views_cons,views_nil,view_bool,view_int,view_sl,view_nils,view_str,view_tup,view_nilif]):G:=e.mpr h
theorem aTc {G G':Prop} (h:G') (f:Wr G'→G:=by intro h;(repeat (first|(refine W_seqV fun K hK=>?_;(try (refine sTc ?_;try exact True.intro));(repeat refine aI ?_);refine hK _ ?_;clear hK K)|(refine W_seqR fun K hK=>?_;(try (refine sTc ?_;try exact True.intro));(repeat refine aI ?_);refine hK _ ?_;clear hK K)|(refine W_seqD mixed [] (by kernel_rfl) fun K hK=>?_;(try (refine sTc ?_;try exact True.intro));(repeat refine aI ?_);refine hK _ ?_;clear hK K)));exact h.out):G:=f ⟨h⟩
theorem lsubst_ok (f:List (Int × RR)) (r:RR) (v:Int) (g:List (Int × RR)) (s:RR) {B C:Nat} (hf:FOk f B) (hg:FOk g C) (hr:r.ok) (hs:s.ok) (h1:B+(1+B+C)<4294967296) (h2:nb (coef (vals f) v)+nb s.v<17179869184) :
  Pure Tryz.prog 137 [.agg (affM f r),.int .i64 v,.agg (affM g s)] (· = .agg (affQ (putF (vals f) v (vals g)) (r.v+coef (vals f) v*s.v))):=by
 have a1:=lwithout_ok f v hf (by omega)
 have a2:=lcoef_ok f v (hf.pf (by omega)) (by omega)
 have hnc:nb (coef (vals f) v)≤1+B:=(hf.pf (by omega)).coef v
 have a3:=lplus_ok (rf (delF (normF (vals f)) v)) r (qr (coef (vals f) v)) g s (B:=B) (C:=C) (FOk.rf (delF_sz hf.sz.norm v) (by omega)) hg hr (qr_ok (by omega)) hs (by rw [qr_v];omega) (by rw [qr_v];exact h2)
 rw [qr_v,vals_rf,qr_av] at a3
 rw [show normF (delF (normF (vals f)) v++if coef (vals f) v=0 then [] else scaleF (coef (vals f) v) (normF (vals g)))=putF (vals f) v (vals g) from rfl] at a3
 generalize putF (vals f) v (vals g)=R at *
 generalize delF (normF (vals f)) v=D at *
 generalize coef (vals f) v=c at *
 generalize r.v+c*s.v=p at *
 obtain ⟨rn,rm,rd⟩:=r
 obtain ⟨sn,sm,sd⟩:=s
 unfold affM affQ at *
 simp only [RR.av,cF,cL,cQ,tab_rf] at *
 (refine pureW Tryz.func137 rfl (rs:=[Go.ResultVar.cell 6 121]) rfl (n:=20) rfl ?_;simp only [List.length_cons,List.length_nil,List.replicate,List.cons_append,List.nil_append])
 (refine aTc ?_)
 ((refine W_seqS mixed 13 [] (by kernel_rfl) ?_);intro K hK;(refine sTc ?_))
 (refine ⟨by kernel_rfl,_,.pure rfl (a1),?_⟩;(try (refine sTc ?_)))
 (refine ⟨by kernel_rfl,_,.pure rfl (a2),?_⟩;(try (refine sTc ?_)))
 (refine ⟨by kernel_rfl,_,.pure rfl (a3),?_⟩;(try (refine sTc ?_)))
 (refine hK _ ?_;clear hK K)
 refine W_ret ?_
 (refine qG ?_;try exact True.intro);try (refine sTcV ?_;try exact True.intro)
theorem tput_ok (f:List (Int × Rat)) (v:Int) (g:List (Int × Rat)) {B C:Nat} (hf:Sz f B) (hg:Sz g C) (h:B+(1+B+C)<4294967296) :
  Pure Tryz.prog 95 [cL f,.int .i64 v,cL g] (·=cL (putF f v g)):=by
 have hff:=FOk.rf hf (by omega)
 have hnc:nb (coef (vals (rf f)) v)≤1+B:=(hff.pf (by omega)).coef v
 have a1:=lsubst_ok (rf f) zeroR v (rf g) zeroR hff (FOk.rf hg (by omega)) zeroR_ok zeroR_ok h (by rw [zeroR_v,nb_zero];omega)
 rw [vals_rf,vals_rf] at a1
 generalize putF f v g=R at *
 generalize zeroR.v+coef f v*zeroR.v=q at *
 have hz0:u32s []=[]:=rfl
 simp only [affM,affQ,zeroR,cL,tab_rf,hz0] at *
 generalize limbs q.num.natAbs=l1 at *
 generalize limbs q.den=l2 at *
 generalize decide (q.num<0)=l3 at *
 generalize tab rowQ R=R' at *
 (refine pureW Tryz.func95 rfl (rs:=[Go.ResultVar.tmp 6]) rfl (n:=14) rfl ?_;simp only [List.length_cons,List.length_nil,List.replicate,List.cons_append,List.nil_append])
 (refine aTc ?_)
 ((refine W_seqV ?_);intro K hK;(refine sTc ?_))
 (refine ⟨by kernel_rfl,_,.pure rfl (a1),?_⟩;(try (refine sTc ?_)))
 (refine hK _ ?_;clear hK K)
 refine W_ret ?_
 (refine qG ?_;try exact True.intro);try (refine sTcV ?_;try exact True.intro)
def knownB (n:Int) (f:List (Int × Rat)):Bool:=f.all fun p=>inR n p.1
theorem known_keys (n:Int) (f:List (Int × Rat)):(keys f).all (inR n)=knownB n f:=by
 unfold keys knownB
 rw [List.all_map]
 rfl
theorem tknown_ok (f:List (Int × RR)) (n:Int) {B:Nat} (hf:FOk f B) (hB:B<17179869184) :
  Pure Tryz.prog 66 [cF f,.int .i64 n] (· = .bool (knownB n (normF (vals f)))):=by
 have a1:=lvars_ok f hf hB
 have hl:((normF (vals f)).map (·.1)).length<17179869184:=by
  have h1:=hf.sz.norm.l
  simp only [List.length_map]
  omega
 rw [← known_keys]
 unfold keys
 generalize (normF (vals f)).map (·.1)=V at *
 have hst:∀ i,i<V.length→V.all (inR n)=true→inR n (V.getD i 0)=true:=fun i hi h=>by
  rw [List.all_eq_true] at h
  exact h _ (by simp [List.getD_eq_getElem?_getD,hi])
 have hno:∀ i,i<V.length→inR n (V.getD i 0)=false→V.all (inR n)=false:=fun i hi h=>by
  rw [Bool.eq_false_iff]
  intro h'
  rw [hst i hi h'] at h
  cases h
 have hall:(∀ i,i<V.length→inR n (V.getD i 0)=true)→V.all (inR n)=true:=fun h=>by
  rw [List.all_eq_true]
  intro x hx
  obtain ⟨i,hi,he⟩:=List.getElem_of_mem hx
  have:=h i hi
  rwa [show V.getD i 0=x by simp [List.getD_eq_getElem?_getD,hi,he]] at this
 generalize V.all (inR n)=R at *
 simp only [cF] at *
 (refine pureW Tryz.func66 rfl (rs:=[Go.ResultVar.tmp 4]) rfl (n:=22) rfl ?_;simp only [List.length_cons,List.length_nil,List.replicate,List.cons_append,List.nil_append])
 (refine aTc ?_)
 ((refine W_seq (W_seqV ?_));intro K hK;(refine sTc ?_))
 (refine ⟨by kernel_rfl,_,.pure rfl (a1),?_⟩;(try (refine sTc ?_)))
 (refine hK _ ?_;clear hK K)
 refine W_block (W_loop (fun t:{t:Nat // t≤V.length∧∀ i,i<t→inR n (V.getD i 0)=true} =>
   ⟨[.sl (tab rowM f),.int .i64 n,.any,.any,.any,.any,.any,.any,.sl (i64s V),.int .i64 V.length,.int .i64 t.1,.any,.any,.any,.any,.any,.any,.any,.any,.any,.any,.any],[.dead,.dead,.dead,.dead,.dead,.dead,.dead,.dead,.dead,.dead,.dead,.dead,.dead,.dead,.dead,.dead,.dead,.dead,.dead,.dead,.dead,.dead]⟩) (fun t=>V.length-t.1)
   ⟨0,by omega,by omega⟩ (Le_of (by simp [leE]) (by simp)) fun t=>?_)
 obtain ⟨i,hi,hpre⟩:=t
 dsimp only
 by_cases hlt:i<V.length
 ·have hno:=hno i hlt
  have hpr:inR n (V.getD i 0)=true→∀ j,j<i+1→inR n (V.getD j 0)=true:=fun h j hj=>by
   by_cases hji:j=i
   ·subst hji;exact h
   ·exact hpre j (by omega)
  generalize hv:V.getD i 0=v at *
  refine W_seq ?_
  ((refine W_regV ?_);intro K hK;(refine sTcX hlt ?_))
  (refine hK _ ?_;clear hK K)
  (refine W_seq (W_ct rfl ?_))
  refine W_skip ?_
  simp only [thenW]
  refine W_seq ?_
  refine W_block ?_
  ((refine W_seqV ?_);intro K hK;(refine sTcX (And.intro hv hlt) ?_))
  (refine hK _ ?_;clear hK K)
  by_cases h1:v<0
  ·have:inR n v=false:=by simp [inR];omega
   ((refine W_seqV ?_);intro K hK;(refine sTcX h1 ?_))
   (refine hK _ ?_;clear hK K)
   (refine W_ct rfl ?_)
   (refine aTc ?_)
   refine W_ret ?_
   rw [hno this]
   (refine qG ?_;try exact True.intro);try (refine sTcV ?_;try exact True.intro)
  ·by_cases h2:n≤v
   ·have:inR n v=false:=by simp [inR];omega
    ((refine W_seqV ?_);intro K hK;(refine sTcX (And.intro h1 h2) ?_))
    (refine hK _ ?_;clear hK K)
    (refine W_ct rfl ?_)
    (refine aTc ?_)
    refine W_ret ?_
    rw [hno this]
    (refine qG ?_;try exact True.intro);try (refine sTcV ?_;try exact True.intro)
   ·have:inR n v=true:=by simp [inR];omega
    ((refine W_seqV ?_);intro K hK;(refine sTcX (And.intro h1 h2) ?_))
    (refine hK _ ?_;clear hK K)
    (refine W_cf rfl ?_)
    refine W_skip ?_
    simp only [blockW,thenW]
    ((refine W_regV ?_);intro K hK;(refine sTc ?_))
    (refine hK _ ?_;clear hK K)
    simp only [blockW,thenW]
    refine ⟨⟨i+1,by omega,hpr this⟩,Le_drop (by simp [leE]) (by simp [leH]) rfl rfl,?_⟩
    dsimp only
    omega
 ·obtain rfl:i=V.length:=by omega
  rw [hall hpre]
  refine W_seq ?_
  ((refine W_regV ?_);intro K hK;(refine sTc ?_))
  (refine hK _ ?_;clear hK K)
  (refine W_seq (W_cf rfl ?_))
  refine W_exit ?_
  simp only [thenW,blockW,if_true]
  (refine aTc ?_)
  refine W_ret ?_
  (refine qG ?_;try exact True.intro);try (refine sTcV ?_;try exact True.intro)
def newR (n:Int):AV:=if n<0 then .tup [cU 0 [],.int .i64 1] else if 65536<n then .tup [cU 0 [],.int .i64 2] else .tup [cU n [],.int .i64 0]
theorem tnew_ok (n:Int):Pure Tryz.prog 28 [.int .i64 n] (·=newR n):=by
 unfold newR cU
 have hz:tab rowU []=[]:=rfl
 rw [hz]
 by_cases h1:n<0
 ·rw [if_pos h1]
  (refine pureW Tryz.func28 rfl (rs:=[Go.ResultVar.cell 2 24,Go.ResultVar.tmp 3]) rfl (n:=14) rfl ?_;simp only [List.length_cons,List.length_nil,List.replicate,List.cons_append,List.nil_append])
  (refine aTc ?_)
  refine W_seq ?_
  refine W_block ?_
  ((refine W_seqV ?_);intro K hK;(refine sTcX h1 ?_))
  (refine hK _ ?_;clear hK K)
  (refine W_ct rfl ?_)
  (refine aTc ?_)
  refine W_ret ?_
  (refine qG ?_;try exact True.intro);try (refine sTcV ?_;try exact True.intro)
 ·rw [if_neg h1]
  by_cases h2:65536<n
  ·rw [if_pos h2]
   (refine pureW Tryz.func28 rfl (rs:=[Go.ResultVar.cell 2 24,Go.ResultVar.tmp 3]) rfl (n:=14) rfl ?_;simp only [List.length_cons,List.length_nil,List.replicate,List.cons_append,List.nil_append])
   (refine aTc ?_)
   refine W_seq ?_
   refine W_block ?_
   ((refine W_seqV ?_);intro K hK;(refine sTcX h1 ?_))
   (refine hK _ ?_;clear hK K)
   (refine W_cf rfl ?_)
   ((refine W_seqV ?_);intro K hK;(refine sTcX h2 ?_))
   (refine hK _ ?_;clear hK K)
   (refine W_ct rfl ?_)
   (refine aTc ?_)
   refine W_ret ?_
   (refine qG ?_;try exact True.intro);try (refine sTcV ?_;try exact True.intro)
  ·rw [if_neg h2]
   (refine pureW Tryz.func28 rfl (rs:=[Go.ResultVar.cell 2 24,Go.ResultVar.tmp 3]) rfl (n:=14) rfl ?_;simp only [List.length_cons,List.length_nil,List.replicate,List.cons_append,List.nil_append])
   (refine aTc ?_)
   refine W_seq ?_
   refine W_block ?_
   ((refine W_seqV ?_);intro K hK;(refine sTcX h1 ?_))
   (refine hK _ ?_;clear hK K)
   (refine W_cf rfl ?_)
   ((refine W_seqV ?_);intro K hK;(refine sTcX h2 ?_))
   (refine hK _ ?_;clear hK K)
   (refine W_cf rfl ?_)
   refine W_skip ?_
   simp only [thenW,blockW]
   (refine aTc ?_)
   refine W_ret ?_
   (refine qG ?_;try exact True.intro);try (refine sTcV ?_;try exact True.intro)
def laysSort_ren:Go.Shelf.Ren:=⟨fun|189=>125|125=>162|257=>161|128=>201|129=>202|294=>192|295=>193|296=>194|297=>195|298=>196|299=>197|216=>198|300=>199|301=>200|328=>219|329=>220|330=>221|331=>222|332=>223|215=>224|343=>229|n=>n,fun|28=>63|3=>3|46=>169|0=>0|51=>128|53=>173|4=>4|183=>196|182=>195|131=>201|5=>5|9=>9|218=>210|222=>214|228=>223|229=>224|n=>n,fun|n=>n⟩
theorem laysSort:Go.Proofs.Lays.n189 Tryz.prog laysSort_ren:={
 mixed:=by kernel_rfl
 f125:=Tryz.func162.trans (congrArg some (by kernel_rfl))
 f128:=Tryz.func201.trans (congrArg some (by kernel_rfl))
 f129:=Tryz.func202.trans (congrArg some (by kernel_rfl))
 f189:=Tryz.func125.trans (congrArg some (by kernel_rfl))
 f215:=Tryz.func224.trans (congrArg some (by kernel_rfl))
 f216:=Tryz.func198.trans (congrArg some (by kernel_rfl))
 f257:=Tryz.func161.trans (congrArg some (by kernel_rfl))
 f294:=Tryz.func192.trans (congrArg some (by kernel_rfl))
 f295:=Tryz.func193.trans (congrArg some (by kernel_rfl))
 f296:=Tryz.func194.trans (congrArg some (by kernel_rfl))
 f297:=Tryz.func195.trans (congrArg some (by kernel_rfl))
 f298:=Tryz.func196.trans (congrArg some (by kernel_rfl))
 f299:=Tryz.func197.trans (congrArg some (by kernel_rfl))
 f300:=Tryz.func199.trans (congrArg some (by kernel_rfl))
 f301:=Tryz.func200.trans (congrArg some (by kernel_rfl))
 f328:=Tryz.func219.trans (congrArg some (by kernel_rfl))
 f329:=Tryz.func220.trans (congrArg some (by kernel_rfl))
 f330:=Tryz.func221.trans (congrArg some (by kernel_rfl))
 f331:=Tryz.func222.trans (congrArg some (by kernel_rfl))
 f332:=Tryz.func223.trans (congrArg some (by kernel_rfl))
 f343:=Tryz.func229.trans (congrArg some (by kernel_rfl))
 t0:=Tryz.underlying0
 a0:=Tryz.isAgg0
 z0:=Tryz.sizeOf0
 v0:=Tryz.zeroValue0
 t3:=Tryz.underlying3
 a3:=Tryz.isAgg3
 z3:=Tryz.sizeOf3
 v3:=Tryz.zeroValue3
 t4:=Tryz.underlying4
 a4:=Tryz.isAgg4
 z4:=Tryz.sizeOf4
 v4:=Tryz.zeroValue4
 t5:=Tryz.underlying5
 a5:=Tryz.isAgg5
 z5:=Tryz.sizeOf5
 v5:=Tryz.zeroValue5
 t9:=Tryz.underlying9
 a9:=Tryz.isAgg9
 z9:=Tryz.sizeOf9
 v9:=Tryz.zeroValue9
 t28:=Tryz.underlying63
 a28:=Tryz.isAgg63
 z28:=Tryz.sizeOf63
 v28:=Tryz.zeroValue63
 t46:=Tryz.underlying169
 a46:=Tryz.isAgg169
 z46:=Tryz.sizeOf169
 v46:=Tryz.zeroValue169
 t51:=Tryz.underlying128
 a51:=Tryz.isAgg128
 z51:=Tryz.sizeOf128
 v51:=Tryz.zeroValue128
 t53:=Tryz.underlying173
 a53:=Tryz.isAgg173
 z53:=Tryz.sizeOf173
 v53:=Tryz.zeroValue173
 t131:=Tryz.underlying201
 a131:=Tryz.isAgg201
 z131:=Tryz.sizeOf201
 v131:=Tryz.zeroValue201
 t182:=Tryz.underlying195
 a182:=Tryz.isAgg195
 z182:=Tryz.sizeOf195
 v182:=Tryz.zeroValue195
 t183:=Tryz.underlying196
 a183:=Tryz.isAgg196
 z183:=Tryz.sizeOf196
 v183:=Tryz.zeroValue196
 t218:=Tryz.underlying210
 a218:=Tryz.isAgg210
 z218:=Tryz.sizeOf210
 v218:=Tryz.zeroValue210
 t222:=Tryz.underlying214
 a222:=Tryz.isAgg214
 z222:=Tryz.sizeOf214
 v222:=Tryz.zeroValue214
 t228:=Tryz.underlying223
 a228:=Tryz.isAgg223
 z228:=Tryz.sizeOf223
 v228:=Tryz.zeroValue223
 t229:=Tryz.underlying224
 a229:=Tryz.isAgg224
 z229:=Tryz.sizeOf224
 v229:=Tryz.zeroValue224 }
theorem sort_ints:SortInts Tryz.prog 125:=⟨fun blk off cap zs w h1 h2 h3=>Any.slices_Sort_int laysSort blk off cap zs w h1 h2 h3,fun p cap w=>Any.slices_Sort_int_none laysSort p cap w⟩
theorem call_sortI {pins:List Nat} {s:St} {i n:Nat} {T:TypeId} {l:List Int} {K:AV→St→Prop} (hi:s.hp[i]?=some (.arr T 1 true (i64s l))) (hn:n=l.length) (hl:l.length<1099511627776)
  (hk:K (.tup []) (s.seth i (.arr T 1 true (i64s (sortK l))))):CallOk Tryz.prog pins 125 [.sref i 0 n] s K:=by
 subst hn
 exact call_sort_of sort_ints hi (by omega) hk
theorem sTd {G G':Prop} (h:G') (e:G=G':=by conv=>lhs;simp (disch:=omega) only [rowsOf,cNat,cN,St.ret,St.seth,Eff.app,Eff.wi,sepL,guardOf,St.known,objOf,List.set,sliceW,litW,copyW,lenOf,bnd,mxOk,ofCells,TI.isAgg,cellsOf,storable,AV.one,dead,laid,overlay,reduceCtorEq,Int.reduceLE,Int.reduceLT,Int.reduceSub,Int.reduceAdd,Nat.reduceMul,Int.reduceToNat,Nat.reducePow,Int.reduceNeg,Nat.reduceAdd,Nat.reduceLT,Nat.reduceLeDiff,sA,sB,Nat.reduceEqDiff,cQ,rowQ,rowU,rowM,i64s_getD,i64s_length,i64s_all,i64s_take,i64s_drop,i64s_set,i64s_one,i64s_pure,i64s_append,tab_length,tab_drop,tab_take,tab_append,tab_nil,rowU_all,rowU_one,rowU_pure,rowQ_all,rowQ_one,rowQ_pure,List.take_length,List.length_append,findA_tab,sT]):G:=e.mpr h
theorem sTdX {G G' P:Prop} (p:P) (h:G') (e:P→G=G':=by intro p;conv=>lhs;simp (disch:=omega) only [rowsOf,cNat,cN,St.ret,St.seth,Eff.app,Eff.wi,sepL,guardOf,St.known,objOf,List.set,sliceW,litW,copyW,lenOf,bnd,mxOk,ofCells,TI.isAgg,cellsOf,storable,AV.one,dead,laid,overlay,reduceCtorEq,Int.reduceLE,Int.reduceLT,Int.reduceSub,Int.reduceAdd,Nat.reduceMul,Int.reduceToNat,Nat.reducePow,Int.reduceNeg,Nat.reduceAdd,Nat.reduceLT,Nat.reduceLeDiff,sA,sB,Nat.reduceEqDiff,cQ,rowQ,rowU,rowM,i64s_getD,i64s_length,i64s_all,i64s_take,i64s_drop,i64s_set,i64s_one,i64s_pure,i64s_append,tab_length,tab_drop,tab_take,tab_append,tab_nil,rowU_all,rowU_one,rowU_pure,rowQ_all,rowQ_one,rowQ_pure,List.take_length,List.length_append,findA_tab,sT,p]):G:=(e p).mpr h
theorem sTdV {G G':Prop} (h:G') (e:G=G':=by conv=>lhs;simp (disch:=omega) only [rowsOf,cNat,cN,St.ret,St.seth,Eff.app,Eff.wi,sepL,guardOf,St.known,objOf,List.set,sliceW,litW,copyW,lenOf,bnd,mxOk,ofCells,TI.isAgg,cellsOf,storable,AV.one,dead,laid,overlay,reduceCtorEq,Int.reduceLE,Int.reduceLT,Int.reduceSub,Int.reduceAdd,Nat.reduceMul,Int.reduceToNat,Nat.reducePow,Int.reduceNeg,Nat.reduceAdd,Nat.reduceLT,Nat.reduceLeDiff,sA,sB,Nat.reduceEqDiff,cQ,rowQ,rowU,rowM,i64s_getD,i64s_length,i64s_all,i64s_take,i64s_drop,i64s_set,i64s_one,i64s_pure,i64s_append,tab_length,tab_drop,tab_take,tab_append,tab_nil,rowU_all,rowU_one,rowU_pure,rowQ_all,rowQ_one,rowQ_pure,List.take_length,List.length_append,findA_tab,sT,view_sref,viewRef,view_agg,views_cons,views_nil,view_bool,view_int,view_sl,view_nils,view_str,view_tup,view_nilif]):G:=e.mpr h
theorem aTd {G G':Prop} (h:G') (f:Wr G'→G:=by intro h;(repeat (first|(refine W_seqV fun K hK=>?_;(try (refine sTd ?_;try exact True.intro));(repeat refine aI ?_);refine hK _ ?_;clear hK K)|(refine W_seqR fun K hK=>?_;(try (refine sTd ?_;try exact True.intro));(repeat refine aI ?_);refine hK _ ?_;clear hK K)|(refine W_seqD mixed [] (by kernel_rfl) fun K hK=>?_;(try (refine sTd ?_;try exact True.intro));(repeat refine aI ?_);refine hK _ ?_;clear hK K)));exact h.out):G:=f ⟨h⟩
theorem tbasics_ok (M:TM) (c:Nat) (bs:List Nat) (hb:bs.length=M.length) (hn:bs.Nodup) (hlt:∀ x∈bs,x<c) (hl:M.length<1099511627776) :
  Pure Tryz.prog 87 [.md c bs (tab rowU M)] (· = .sl (i64s (sortK (keys M)))):=by
 (refine pureW Tryz.func87 rfl (rs:=[Go.ResultVar.tmp 2]) rfl (n:=18) rfl ?_;simp only [List.length_cons,List.length_nil,List.replicate,List.cons_append,List.nil_append])
 (refine aTd ?_)
 refine W.le ?_ (Le_nil 3 3 3 1 true rfl rfl)
 simp only [List.set]
 ((refine W_seq (W_seqR ?_));intro K hK;(refine sTd ?_))
 (refine hK _ ?_;clear hK K)
 refine W_block (W_loop (fun t:{t:List Nat // Seen bs t} =>
   ⟨[.md c bs (tab rowU M),.any,.any,.sref 3 0 t.1.length,.any,.any,.it 6,.any,.any,.any,.any,.any,.any,.any,.any,.any,.any,.any],[.dead,.dead,.dead,.arr 3 1 true (i64s (t.1.map fun x=>(atB bs M x).1)),.dead,.dead,.iter (.md c bs (tab rowU M)) c t.1 c,.dead,.dead,.dead,.dead,.dead,.dead,.dead,.dead,.dead,.dead,.dead]⟩) (fun t=>bs.length-t.1.length)
   ⟨[],Seen.nil bs⟩ (Le_of (by simp [leE]) (by simp [i64s])) fun t=>?_)
 obtain ⟨sn,hsn⟩:=t
 dsimp only
 ((refine W_seqR ?_);intro K hK;(refine sTd ?_))
 refine ⟨Nat.le_refl _,hlt,fun hall=>hK _ ?_,fun j x hj hx=>hK _ ?_⟩ <;> clear hK K
 ·have hpm:(sn.map fun x=>(atB bs M x).1).Perm (keys M):=seen_keys hn hb hsn.nodup hsn.sub hall
  have hlen:sn.length=(sn.map fun x=>(atB bs M x).1).length:=by simp
  have hso:sortK (sn.map fun x=>(atB bs M x).1)=sortK (keys M):=sortK_of hpm
  have hsl:=sortK_len (sn.map fun x=>(atB bs M x).1)
  have hkl:(sn.map fun x=>(atB bs M x).1).length<1099511627776:=by rw [hpm.length_eq,keys_len];exact hl
  generalize (sn.map fun x=>(atB bs M x).1)=l at *
  rw [hlen]
  (refine W_seq (W_cf rfl ?_))
  refine W_exit ?_
  simp only [thenW,blockW,if_true]
  ((refine W_seqR ?_);intro K hK;(refine sTd ?_))
  refine ⟨by kernel_rfl,call_sortI rfl rfl hkl ?_⟩
  (refine sTd ?_;try exact True.intro)
  (refine hK _ ?_;clear hK K)
  rw [hso] at hsl ⊢
  rw [← hsl]
  (refine W.le ?_ (Le_freeze 3 (rows:=i64s (sortK (keys M))) rfl (by simp) (.inl rfl));simp only [St.freeze,List.map_cons,List.map_nil,List.set,if_true,if_false,Nat.reduceEqDiff,reduceCtorEq,List.drop_zero,u32s_take,u32s_drop,froz_any,froz_und,froz_int,froz_bool,froz_str,froz_nils,froz_sl,froz_ia,froz_nilp,froz_nilif,froz_nilfn,froz_nilmp,froz_gl,froz_sref,froz_ptr,froz_agg,froz_tup,froz_fn,froz_ifc,frozs_nil,frozs_cons,froz_dead,froz_arr,froz_mp,froz_it,froz_md,froz_map,froz_iter])
  (refine aTd ?_)
  refine W_ret ?_
  (refine qG ?_;try exact True.intro);try (refine sTdV ?_;try exact True.intro)
 ·have hjl:j<M.length:=by have:=births_lt hj;omega
  have hXj:(tab rowU M).getD j []=rowU (M.getD j default):=tab_getD hjl
  have hat:=atB_of hn hj (M:=M)
  have hs2:=hsn.snoc hj hx
  have hmu:=hsn.lt hj hx
  have hln:=seen_le hsn.nodup hsn.sub
  have hlo:(sn.map fun x=>(atB bs M x).1).length=sn.length:=by simp
  have hres:(sn++[x]).map (fun x=>(atB bs M x).1)=sn.map (fun x=>(atB bs M x).1)++[(M.getD j default).1]:=by simp [hat]
  generalize M.getD j default=p at *
  simp only [rowU] at hXj
  rw [hXj]
  generalize hlo':sn.map (fun x=>(atB bs M x).1)=lo at *
  (refine W_seq (W_ct rfl ?_))
  refine W_skip ?_
  simp only [thenW]
  refine W_block ?_
  ((refine W_seqR ?_);intro K hK;(refine sTd ?_))
  refine ⟨j,x,by simp,hj,?_⟩
  (refine sTdX hXj ?_;try exact True.intro)
  (refine hK _ ?_;clear hK K)
  (refine W_regR fun K hK=>?_;(refine sTd ?_;try exact True.intro))
  (repeat refine aI ?_)
  refine hK _ ?_
  clear hK K
  simp only [blockW,thenW]
  refine ⟨⟨sn++[x],hs2⟩,Le_drop (by simp [leE]) (by rw [hres];simp [leH,i64s,hlo,List.take_of_length_le]) rfl rfl,?_⟩
  exact hmu
end Go.Proofs.YtjmpajgjaefcjaaGreat.Vm
/-
  Tableaus: the rows told; a form without basic variables.
-/
namespace Go.Proofs.YtjmpajgjaefcjaaGreat.Vm
open Go Go.RowKit
theorem sTe {G G' : Prop} (h : G') (e : G = G' := by conv => lhs; simp (disch := omega) only [rowsOf, cNat, cN, St.ret, St.seth, Eff.app, Eff.wi, sepL, guardOf, St.known, objOf, List.set, sliceW, litW, copyW, lenOf, bnd, mxOk, ofCells, TI.isAgg, cellsOf, storable, AV.one, dead, laid, overlay, reduceCtorEq, Int.reduceLE, Int.reduceLT, Int.reduceSub, Int.reduceAdd, Nat.reduceMul, Int.reduceToNat, Nat.reducePow, Int.reduceNeg, Nat.reduceAdd, Nat.reduceLT, Nat.reduceLeDiff, sA, sB, Nat.reduceEqDiff, cQ, rowQ, rowU, rowM, i64s_getD, i64s_length, i64s_all, i64s_take, i64s_drop, i64s_set, i64s_one, i64s_pure, i64s_append, tab_length, tab_drop, tab_take, tab_append, tab_nil, rowU_all, rowU_one, rowU_pure, rowQ_all, rowQ_one, rowQ_pure, List.take_length, List.length_append, findA_tab, sT]) : G := e.mpr h
theorem sTeX {G G' P : Prop} (p : P) (h : G') (e : P → G = G' := by intro p; conv => lhs; simp (disch := omega) only [rowsOf, cNat, cN, St.ret, St.seth, Eff.app, Eff.wi, sepL, guardOf, St.known, objOf, List.set, sliceW, litW, copyW, lenOf, bnd, mxOk, ofCells, TI.isAgg, cellsOf, storable, AV.one, dead, laid, overlay, reduceCtorEq, Int.reduceLE, Int.reduceLT, Int.reduceSub, Int.reduceAdd, Nat.reduceMul, Int.reduceToNat, Nat.reducePow, Int.reduceNeg, Nat.reduceAdd, Nat.reduceLT, Nat.reduceLeDiff, sA, sB, Nat.reduceEqDiff, cQ, rowQ, rowU, rowM, i64s_getD, i64s_length, i64s_all, i64s_take, i64s_drop, i64s_set, i64s_one, i64s_pure, i64s_append, tab_length, tab_drop, tab_take, tab_append, tab_nil, rowU_all, rowU_one, rowU_pure, rowQ_all, rowQ_one, rowQ_pure, List.take_length, List.length_append, findA_tab, sT, p]) : G := (e p).mpr h
theorem sTeV {G G' : Prop} (h : G') (e : G = G' := by conv => lhs; simp (disch := omega) only [rowsOf, cNat, cN, St.ret, St.seth, Eff.app, Eff.wi, sepL, guardOf, St.known, objOf, List.set, sliceW, litW, copyW, lenOf, bnd, mxOk, ofCells, TI.isAgg, cellsOf, storable, AV.one, dead, laid, overlay, reduceCtorEq, Int.reduceLE, Int.reduceLT, Int.reduceSub, Int.reduceAdd, Nat.reduceMul, Int.reduceToNat, Nat.reducePow, Int.reduceNeg, Nat.reduceAdd, Nat.reduceLT, Nat.reduceLeDiff, sA, sB, Nat.reduceEqDiff, cQ, rowQ, rowU, rowM, i64s_getD, i64s_length, i64s_all, i64s_take, i64s_drop, i64s_set, i64s_one, i64s_pure, i64s_append, tab_length, tab_drop, tab_take, tab_append, tab_nil, rowU_all, rowU_one, rowU_pure, rowQ_all, rowQ_one, rowQ_pure, List.take_length, List.length_append, findA_tab, sT, view_sref, viewRef, view_agg, views_cons, views_nil, view_bool, view_int, view_sl, view_nils, view_str, view_tup, view_nilif]) : G := e.mpr h
theorem aTe {G G' : Prop} (h : G') (f : Wr G' → G := by intro h; (repeat (first | (refine W_seqV fun K hK => ?_; (try (refine sTe ?_; try exact True.intro)); (repeat refine aI ?_); refine hK _ ?_; clear hK K) | (refine W_seqR fun K hK => ?_; (try (refine sTe ?_; try exact True.intro)); (repeat refine aI ?_); refine hK _ ?_; clear hK K) | (refine W_seqD mixed [] (by kernel_rfl) fun K hK => ?_; (try (refine sTe ?_; try exact True.intro)); (repeat refine aI ?_); refine hK _ ?_; clear hK K))); exact h.out) : G := f ⟨h⟩

theorem look_idx {M : TM} {b : Int} (h : b ∈ keys M) : ∃ j, idxM M b = some j ∧ j < M.length ∧ (M.getD j default).1 = b ∧ lookM M b = some (M.getD j default).2 ∧ M.getD j default ∈ M := by
  cases hi : idxM M b with
  | none => exact absurd h (idx_none hi).1
  | some j =>
    obtain ⟨h1, h2, h3, _⟩ := idx_some hi
    exact ⟨j, rfl, h1, h2, h3, getD_mem h1⟩
theorem sortM_getD {M : TM} {i : Nat} (h : i < (sortK (keys M)).length) : (sortM M).getD i default = ((sortK (keys M)).getD i 0, (lookM M ((sortK (keys M)).getD i 0)).getD []) := by
  unfold sortM
  simp [List.getD_eq_getElem?_getD, h]
/-- Rows whose forms are normal and small. -/
structure MOk (M : TM) (B : Nat) : Prop where
  nf : ∀ r ∈ M, NF r.2
  sz : ∀ r ∈ M, Sz r.2 B
  len : M.length < 1099511627776
theorem ttold_ok (M : TM) (n : Int) (c : Nat) (bs : List Nat) {B : Nat} (hM : MOk M B) (hB : B < 17179869184) (hb : bs.length = M.length) (hn : bs.Nodup) (hlt : ∀ x ∈ bs, x < c) :
    Pure Tryz.prog 63 [.md c bs (tab rowU M), .int .i64 n] (· = cU n (sortM M)) := by
  have a1 := tbasics_ok M c bs hb hn hlt hM.len
  have hsl : (sortM M).length = (sortK (keys M)).length := by rw [sortM_len, sortK_len, keys_len]
  have hsm : (sortM M).length < 1099511627776 := by rw [sortM_len]; exact hM.len
  have hrow : ∀ i, i < (sortK (keys M)).length → ∃ j g, idxM M ((sortK (keys M)).getD i 0) = some j ∧ (tab rowU M).getD j [] = [.int .i64 ((sortK (keys M)).getD i 0), .sl (tab rowQ g)] ∧
      (sortM M).take (i + 1) = (sortM M).take i ++ [((sortK (keys M)).getD i 0, g)] ∧ Pure Tryz.prog 108 [cL g] (· = cL g) := by
    intro i hi
    have hm : (sortK (keys M)).getD i 0 ∈ keys M := mem_sortK.1 (by simp [List.getD_eq_getElem?_getD, hi])
    obtain ⟨j, h1, h2, h3, h4, h5⟩ := look_idx hm
    refine ⟨j, (M.getD j default).2, h1, ?_, ?_, ?_⟩
    · rw [rowU_getD h2, ← h3]
      rfl
    · rw [take_snoc (by omega), sortM_getD hi, h4]
      rfl
    · have := lnorm_ok (rf (M.getD j default).2) (FOk.rf (hM.sz _ h5) hB) hB
      rw [vals_rf, norm_self (hM.nf _ h5), cF_rf] at this
      exact this
  have hall : (sortM M).take (sortK (keys M)).length = sortM M := by rw [← hsl, List.take_length]
  have h0 : (sortM M).take 0 = [] := rfl
  have hln : ∀ i, i ≤ (sortK (keys M)).length → ((sortM M).take i).length = i := fun i hi => by rw [List.length_take]; omega
  unfold cU
  generalize sortK (keys M) = l at *
  generalize sortM M = N at *
  generalize hE : (fun i => N.take i) = E at *
  have hE' : ∀ i, N.take i = E i := fun i => congrFun hE i
  simp only [hE'] at *
  clear hE hE'
  (refine pureW Tryz.func63 rfl (rs := [Go.ResultVar.cell 4 24]) rfl (n := 30) rfl ?_; simp only [List.length_cons, List.length_nil, List.replicate, List.cons_append, List.nil_append])
  (refine aTe ?_)
  ((refine W_seq (W_seqV ?_)); intro K hK; (refine sTe ?_))
  (refine ⟨by kernel_rfl, _, .pure rfl (a1), ?_⟩; (try (refine sTe ?_)))
  (refine hK _ ?_; clear hK K)
  refine W.le ?_ (Le_nilO 5 0 1 26 84 2 true rfl rfl rfl rfl)
  simp only [List.set]
  refine W_block (W_loop (fun t : {t : Nat // t ≤ l.length} =>
      ⟨[.md c bs (tab rowU M), .int .i64 n, .any, .any, .ptr 4 0 0, .ptr 5 0 0, .any, .any, .any, .any, .any, .sl (i64s l), .int .i64 l.length, .int .i64 t.1, .any, .any, .any, .any, .any, .any, .any, .any, .any, .any, .any, .any, .any, .any, .any, .any],
       [.dead, .dead, .dead, .dead, .arr 24 2 false [[.int .i64 0, .nils]], .arr 24 2 false [[.int .i64 n, .sref 26 0 t.1]], .dead, .dead, .dead, .dead, .dead, .dead, .dead, .dead, .dead, .dead, .dead, .dead, .dead, .dead, .dead, .dead, .dead, .dead, .dead, .dead, .arr 84 2 true (tab rowU (E t.1)), .dead, .dead, .dead]⟩) (fun t => l.length - t.1)
      ⟨0, by omega⟩ (Le_of (by simp [leE]) (by simp [h0, tab])) fun t => ?_)
  obtain ⟨i, hi⟩ := t
  dsimp only
  by_cases hil : i < l.length
  · obtain ⟨j, g, hid, hXj, hst, hno⟩ := hrow i hil
    have hle := hln i (by omega)
    generalize hv : l.getD i 0 = v at *
    generalize E i = o at *
    simp only [cL] at hno
    refine W_seq ?_
    ((refine W_regV ?_); intro K hK; (refine sTeX hil ?_))
    (refine hK _ ?_; clear hK K)
    (refine W_seq (W_cond rfl (fun _ => ?_) (fun h => by cases h)))
    refine W_skip ?_
    simp only [thenW]
    refine W_seq ?_
    refine W_block ?_
    ((refine W_seqV ?_); intro K hK; (refine sTeX (And.intro hv hil) ?_))
    (refine hK _ ?_; clear hK K)
    ((refine W_regS mixed 9 [] (by kernel_rfl) ?_); intro K hK; (refine sTeX (And.intro hid hXj) ?_))
    (refine ⟨by kernel_rfl, _, .pure rfl (hno), ?_⟩; (try (refine sTe ?_)); (repeat refine aI ?_))
    (refine hK _ ?_; clear hK K)
    simp only [blockW, thenW]
    ((refine W_regV ?_); intro K hK; (refine sTe ?_))
    (refine hK _ ?_; clear hK K)
    simp only [blockW, thenW]
    refine ⟨⟨i + 1, by omega⟩, Le_drop (by simp [leE]) (by simp [leH, hst, ← tab_snoc, rowU, tab_take, List.take_of_length_le, hle]) rfl rfl, ?_⟩
    dsimp only
    omega
  · obtain rfl : i = l.length := by omega
    rw [hall]
    refine W_seq ?_
    ((refine W_regV ?_); intro K hK; (refine sTe ?_))
    (refine hK _ ?_; clear hK K)
    (refine W_seq (W_cond rfl (fun h => by cases h) (fun _ => ?_)))
    refine W_exit ?_
    simp only [thenW, blockW, if_true]
    (refine aTe ?_)
    refine W_ret ?_
    (refine qG ?_; try exact True.intro); try (refine sTeV ?_; try exact True.intro)
    rw [List.take_of_length_le (by omega)]
end Go.Proofs.YtjmpajgjaefcjaaGreat.Vm

/-
  Tableaus: a tableau's rows as a map.
-/
namespace Go.Proofs.YtjmpajgjaefcjaaGreat.Vm
open Go Go.RowKit
theorem sTf {G G' : Prop} (h : G') (e : G = G' := by conv => lhs; simp (disch := omega) only [rowsOf, cNat, cN, St.ret, St.seth, Eff.app, Eff.wi, sepL, guardOf, St.known, objOf, List.set, sliceW, litW, copyW, lenOf, bnd, mxOk, ofCells, TI.isAgg, cellsOf, storable, AV.one, dead, laid, overlay, reduceCtorEq, Int.reduceLE, Int.reduceLT, Int.reduceSub, Int.reduceAdd, Nat.reduceMul, Int.reduceToNat, Nat.reducePow, Int.reduceNeg, Nat.reduceAdd, Nat.reduceLT, Nat.reduceLeDiff, sA, sB, Nat.reduceEqDiff, cQ, rowQ, rowU, rowT, rowM, i64s_getD, i64s_length, tab_length, tab_drop, tab_take, tab_append, tab_nil, rowT_all, rowT_one, rowT_pure, rowU_all, rowU_one, rowU_pure, rowQ_all, rowQ_one, rowQ_pure, List.take_length, List.length_append, findA_tab, range_snoc, pure_sl, sT]) : G := e.mpr h
theorem sTfX {G G' P : Prop} (p : P) (h : G') (e : P → G = G' := by intro p; conv => lhs; simp (disch := omega) only [rowsOf, cNat, cN, St.ret, St.seth, Eff.app, Eff.wi, sepL, guardOf, St.known, objOf, List.set, sliceW, litW, copyW, lenOf, bnd, mxOk, ofCells, TI.isAgg, cellsOf, storable, AV.one, dead, laid, overlay, reduceCtorEq, Int.reduceLE, Int.reduceLT, Int.reduceSub, Int.reduceAdd, Nat.reduceMul, Int.reduceToNat, Nat.reducePow, Int.reduceNeg, Nat.reduceAdd, Nat.reduceLT, Nat.reduceLeDiff, sA, sB, Nat.reduceEqDiff, cQ, rowQ, rowU, rowT, rowM, i64s_getD, i64s_length, tab_length, tab_drop, tab_take, tab_append, tab_nil, rowT_all, rowT_one, rowT_pure, rowU_all, rowU_one, rowU_pure, rowQ_all, rowQ_one, rowQ_pure, List.take_length, List.length_append, findA_tab, range_snoc, pure_sl, sT, p]) : G := (e p).mpr h
theorem aTf {G G' : Prop} (h : G') (f : Wr G' → G := by intro h; (repeat (first | (refine W_seqV fun K hK => ?_; (try (refine sTf ?_; try exact True.intro)); (repeat refine aI ?_); refine hK _ ?_; clear hK K) | (refine W_seqR fun K hK => ?_; (try (refine sTf ?_; try exact True.intro)); (repeat refine aI ?_); refine hK _ ?_; clear hK K) | (refine W_seqD mixed [] (by kernel_rfl) fun K hK => ?_; (try (refine sTf ?_; try exact True.intro)); (repeat refine aI ?_); refine hK _ ?_; clear hK K))); exact h.out) : G := f ⟨h⟩

/-- What is known of the rows' variables, row by row. -/
structure KOk (n : Int) (l : List Int) : Prop where
  nodup : l.Nodup
  range : ∀ b ∈ l, 0 ≤ b ∧ b < n
theorem KOk.nil (n : Int) : KOk n [] := ⟨List.nodup_nil, by simp⟩
theorem KOk.snoc {n : Int} {l : List Int} (h : KOk n l) {b : Int} (h1 : b ∉ l) (h2 : 0 ≤ b ∧ b < n) : KOk n (l ++ [b]) := by
  refine ⟨?_, fun c hc => ?_⟩
  · rw [List.nodup_append]
    refine ⟨h.nodup, by simp, ?_⟩
    rintro a ha b' hb rfl
    simp at hb
    subst hb
    exact h1 ha
  · rcases List.mem_append.1 hc with hc | hc
    · exact h.range c hc
    · simp at hc; subst hc; exact h2
theorem GT.pre {n : Int} {M : TM} (h : GT n M) {i : Nat} (hi : i < M.length) : (M.getD i default).1 ∉ keys (M.take i) ∧ 0 ≤ (M.getD i default).1 ∧ (M.getD i default).1 < n := by
  have h1 := h.range (M.getD i default).1 (List.mem_map.2 ⟨_, getD_mem hi, rfl⟩)
  refine ⟨fun hm => ?_, h1⟩
  have h2 := h.nodup
  have h3 : keys M = keys (M.take i) ++ keys (M.drop i) := by rw [← keys_append, List.take_append_drop]
  rw [h3, List.nodup_append] at h2
  refine h2.2.2 _ hm (M.getD i default).1 ?_ rfl
  have : M.drop i = M.getD i default :: M.drop (i + 1) := by
    rw [List.drop_eq_getElem_cons hi]
    simp [List.getD_eq_getElem?_getD, hi]
  rw [this]
  simp [keys]
def loadR (n : Int) (t : TR) : MapR := if goodB n (nrmT t) then some (t.length, List.range t.length, tab rowU (nrmT t)) else none
theorem tload_new (n : Int) (t : TR) {B : Nat} (hf : ∀ r ∈ t, FOk r.2 B) (hB : B < 17179869184) (hl : t.length < 1099511627776) :
    NewMB Tryz.prog 62 [cT n t] (· = loadR n t) := by
  have hml := nrmT_len t
  have hgT : GT n (nrmT t) → goodB n (nrmT t) = true := gt_iff.2
  have hgF : ¬ GT n (nrmT t) → goodB n (nrmT t) = false := fun h => by
    rw [Bool.eq_false_iff]
    exact fun h' => h (gt_iff.1 h')
  have hnd := fun i (hi : i < t.length) => nrmT_getD hi
  have hno := fun i (hi : i < t.length) => lnorm_ok (t.getD i default).2 (hf _ (getD_mem hi)) hB
  have hst : ∀ i, i < t.length → (nrmT t).take (i + 1) = (nrmT t).take i ++ [((t.getD i default).1, normF (vals (t.getD i default).2))] := fun i hi => by
    rw [take_snoc (by omega), hnd i hi]
  have hfl : ∀ r ∈ nrmT t, r.2.length < 1099511627776 := fun r hr => by
    obtain ⟨q, hq, rfl⟩ := List.mem_map.1 hr
    have := (hf q hq).sz.norm.l
    simp only
    omega
  have hall : (nrmT t).take t.length = nrmT t := by rw [← hml, List.take_length]
  unfold loadR cT
  generalize nrmT t = M at *
  generalize goodB n M = gb at *
  by_cases h1 : n < 0
  · rw [hgF fun h => by have := h.lo; omega]
    (refine newMB_of_W Tryz.func62 rfl (rs := [Go.ResultVar.tmp 2, Go.ResultVar.tmp 3]) rfl (nt := 92) rfl ?_; simp only [List.length_cons, List.length_nil, List.replicate, List.cons_append, List.nil_append])
    (refine aTf ?_)
    ((refine W_seq (W_seqV ?_)); intro K hK; (refine sTfX h1 ?_))
    (refine hK _ ?_; clear hK K)
    (refine W_cond rfl (fun _ => ?_) (fun h => by cases h))
    (refine aTf ?_)
    refine W_ret ?_
    (simp only [thenW, blockW, newMQ, resW, resV, asOne_two, newMK, List.getD_cons_zero, List.getD_cons_succ]); simp
  by_cases h2 : 65536 < n
  · rw [hgF fun h => by have := h.hi; omega]
    (refine newMB_of_W Tryz.func62 rfl (rs := [Go.ResultVar.tmp 2, Go.ResultVar.tmp 3]) rfl (nt := 92) rfl ?_; simp only [List.length_cons, List.length_nil, List.replicate, List.cons_append, List.nil_append])
    (refine aTf ?_)
    ((refine W_seq (W_seqV ?_)); intro K hK; (refine sTfX (And.intro h1 h2) ?_))
    (refine hK _ ?_; clear hK K)
    (refine W_cond rfl (fun _ => ?_) (fun h => by cases h))
    (refine aTf ?_)
    refine W_ret ?_
    (simp only [thenW, blockW, newMQ, resW, resV, asOne_two, newMK, List.getD_cons_zero, List.getD_cons_succ]); simp
  (refine newMB_of_W Tryz.func62 rfl (rs := [Go.ResultVar.tmp 2, Go.ResultVar.tmp 3]) rfl (nt := 92) rfl ?_; simp only [List.length_cons, List.length_nil, List.replicate, List.cons_append, List.nil_append])
  (refine aTf ?_)
  ((refine W_seq (W_seqV ?_)); intro K hK; (refine sTfX (And.intro h1 h2) ?_))
  (refine hK _ ?_; clear hK K)
  (refine W_cond rfl (fun h => by cases h) (fun _ => ?_))
  refine W_skip ?_
  simp only [thenW]
  ((refine W_seqR ?_); intro K hK; (refine sTf ?_))
  (refine hK _ ?_; clear hK K)
  ((refine W_seq (W_seqV ?_)); intro K hK; (refine sTf ?_))
  (refine hK _ ?_; clear hK K)
  refine W_block (W_loop (fun s : {i : Nat // i ≤ t.length ∧ KOk n (keys (M.take i))} =>
      ⟨(.any :: (.ptr 1 0 0) :: .nilmp :: (.bool false) :: (.mp 23) :: .any :: .any :: .any :: .any :: .any :: .any :: .any :: .any :: .any :: .any :: .any :: .any :: .any :: .any :: .any :: .any :: .any :: .any :: .any :: .any :: (.sl (tab rowT t)) :: (.int .i64 t.length) :: (.int .i64 s.1) :: .any :: .any :: .any :: .any :: .any :: .any :: .any :: .any :: .any :: .any :: .any :: .any :: .any :: .any :: .any :: .any :: .any :: .any :: .any :: .any :: .any :: .any :: .any :: .any :: .any :: .any :: .any :: .any :: .any :: .any :: .any :: .any :: .any :: .any :: .any :: .any :: .any :: .any :: .any :: .any :: .any :: .any :: .any :: .any :: .any :: .any :: .any :: .any :: .any :: .any :: .any :: .any :: .any :: .any :: .any :: .any :: .any :: .any :: .any :: .any :: .any :: .any :: .any :: .any :: []),
       (.dead :: (.arr 24 2 false [[.int .i64 n, .sl (tab rowT t)]]) :: .dead :: .dead :: .dead :: .dead :: .dead :: .dead :: .dead :: .dead :: .dead :: .dead :: .dead :: .dead :: .dead :: .dead :: .dead :: .dead :: .dead :: .dead :: .dead :: .dead :: .dead :: (.map s.1 (List.range s.1) (tab rowU (M.take s.1))) :: .dead :: .dead :: .dead :: .dead :: .dead :: .dead :: .dead :: .dead :: .dead :: .dead :: .dead :: .dead :: .dead :: .dead :: .dead :: .dead :: .dead :: .dead :: .dead :: .dead :: .dead :: .dead :: .dead :: .dead :: .dead :: .dead :: .dead :: .dead :: .dead :: .dead :: .dead :: .dead :: .dead :: .dead :: .dead :: .dead :: .dead :: .dead :: .dead :: .dead :: .dead :: .dead :: .dead :: .dead :: .dead :: .dead :: .dead :: .dead :: .dead :: .dead :: .dead :: .dead :: .dead :: .dead :: .dead :: .dead :: .dead :: .dead :: .dead :: .dead :: .dead :: .dead :: .dead :: .dead :: .dead :: .dead :: .dead :: .dead :: [])⟩) (fun s => t.length - s.1)
      ⟨0, by omega, KOk.nil n⟩ (Le_drop (by simp [leE]) (by simp [leH, tab]) rfl rfl) fun s => ?_)
  obtain ⟨i, hi, hk⟩ := s
  dsimp only
  by_cases hil : i < t.length
  · have hti : (tab rowT t).getD i [] = rowT (t.getD i default) := tab_getD hil
    have hni := hno i hil
    have hsi := hst i hil
    have hMi := hnd i hil
    have hpre := fun h : GT n M => h.pre (show i < M.length by omega)
    rw [hMi] at hpre
    generalize t.getD i default = r at *
    obtain ⟨b, f⟩ := r
    simp only [rowT] at hti
    dsimp only at *
    have htl : (M.take i).length = i := by rw [List.length_take]; omega
    generalize M.take i = P at *
    refine W_seq ?_
    ((refine W_regV ?_); intro K hK; (refine sTfX hil ?_))
    (refine hK _ ?_; clear hK K)
    (refine W_seq (W_cond rfl (fun _ => ?_) (fun h => by cases h)))
    refine W_skip ?_
    simp only [thenW]
    refine W_seq ?_
    refine W_block ?_
    ((refine W_seqV ?_); intro K hK; (refine sTfX (And.intro hti hil) ?_))
    (refine hK _ ?_; clear hK K)
    refine W_seq ?_
    refine W_seq ?_
    cases hid : idxM P b with
    | some j =>
      obtain ⟨hj1, hj2, _, hj3⟩ := idx_some hid
      have hXj : (tab rowU P).getD j [] = rowU (P.getD j default) := rowU_getD hj1
      rw [hgF fun h => (hpre h).1 hj3]
      generalize P.getD j default = q at *
      simp only [rowU] at hXj
      ((refine W_regV ?_); intro K hK; (refine sTfX (And.intro hid hXj) ?_))
      (refine hK _ ?_; clear hK K)
      ((refine W_seqV ?_); intro K hK; (refine sTf ?_))
      (refine hK _ ?_; clear hK K)
      (refine W_cond rfl (fun _ => ?_) (fun h => by cases h))
      (refine aTf ?_)
      refine W_ret ?_
      (simp only [thenW, blockW, newMQ, resW, resV, asOne_two, newMK, List.getD_cons_zero, List.getD_cons_succ]); simp
    | none =>
      have hni2 := (idx_none hid).1
      ((refine W_regV ?_); intro K hK; (refine sTfX hid ?_))
      (refine hK _ ?_; clear hK K)
      by_cases h3 : b < 0
      · rw [hgF fun h => by have := (hpre h).2.1; omega]
        ((refine W_seqV ?_); intro K hK; (refine sTfX h3 ?_))
        (refine hK _ ?_; clear hK K)
        (refine W_cond rfl (fun _ => ?_) (fun h => by cases h))
        (refine aTf ?_)
        refine W_ret ?_
        (simp only [thenW, blockW, newMQ, resW, resV, asOne_two, newMK, List.getD_cons_zero, List.getD_cons_succ]); simp
      · by_cases h4 : n ≤ b
        · rw [hgF fun h => by have := (hpre h).2.2; omega]
          ((refine W_seqV ?_); intro K hK; (refine sTfX (And.intro h3 h4) ?_))
          (refine hK _ ?_; clear hK K)
          (refine W_cond rfl (fun _ => ?_) (fun h => by cases h))
          (refine aTf ?_)
          refine W_ret ?_
          (simp only [thenW, blockW, newMQ, resW, resV, asOne_two, newMK, List.getD_cons_zero, List.getD_cons_succ]); simp
        · have hk' : KOk n (keys (P ++ [(b, normF (vals f))])) := by
            rw [keys_append]
            exact hk.snoc hni2 ⟨by show 0 ≤ b; omega, by show b < n; omega⟩
          simp only [cF, cL] at hni
          ((refine W_seqV ?_); intro K hK; (refine sTfX (And.intro h3 h4) ?_))
          (refine hK _ ?_; clear hK K)
          (refine W_cond rfl (fun h => by cases h) (fun _ => ?_))
          refine W_skip ?_
          simp only [thenW]
          ((refine W_regS mixed 6 [] (by kernel_rfl) ?_); intro K hK; (refine sTfX hid ?_))
          (refine ⟨by kernel_rfl, _, .pure rfl (hni), ?_⟩; (try (refine sTf ?_)))
          (refine hK _ ?_; clear hK K)
          simp only [blockW, thenW]
          ((refine W_regV ?_); intro K hK; (refine sTf ?_))
          (refine hK _ ?_; clear hK K)
          simp only [blockW, thenW]
          refine ⟨⟨i + 1, by omega, by rw [hsi]; exact hk'⟩, Le_drop (by simp [leE]) (by simp [leH, hsi, ← tab_snoc, rowU, range_snoc]) rfl rfl, ?_⟩
          dsimp only
          omega
  · obtain rfl : i = t.length := by omega
    rw [hall] at hk ⊢
    refine W_seq ?_
    ((refine W_regV ?_); intro K hK; (refine sTf ?_))
    (refine hK _ ?_; clear hK K)
    (refine W_seq (W_cond rfl (fun h => by cases h) (fun _ => ?_)))
    refine W_exit ?_
    simp only [thenW, blockW, if_true]
    ((refine W_seq (W_seqR ?_)); intro K hK; (refine sTf ?_))
    (refine hK _ ?_; clear hK K)
    have hrl : (List.range t.length).length = t.length := List.length_range
    refine W_block (W_loop (fun s : {sn : List Nat // Seen (List.range t.length) sn ∧ ∀ x ∈ sn, ∀ p ∈ (M.getD x default).2, (0 ≤ p.1 ∧ p.1 < n) ∧ p.1 ∉ keys M} =>
      ⟨(.any :: (.ptr 1 0 0) :: .nilmp :: (.bool false) :: (.mp 23) :: .any :: .any :: .any :: .any :: .any :: .any :: .any :: .any :: .any :: .any :: .any :: .any :: .any :: .any :: .any :: .any :: .any :: .any :: .any :: .any :: .any :: .any :: .any :: .any :: .any :: .any :: .any :: .any :: .any :: .any :: .any :: .any :: .any :: .any :: .any :: .any :: .any :: .any :: .any :: .any :: .any :: .any :: .any :: .any :: .any :: .any :: .any :: .any :: .any :: .any :: .any :: .any :: .any :: .any :: (.it 59) :: .any :: .any :: .any :: .any :: .any :: .any :: .any :: .any :: .any :: .any :: .any :: .any :: .any :: .any :: .any :: .any :: .any :: .any :: .any :: .any :: .any :: .any :: .any :: .any :: .any :: .any :: .any :: .any :: .any :: .any :: .any :: .any :: []),
       (.dead :: (.arr 24 2 false [[.int .i64 n, .sl (tab rowT t)]]) :: .dead :: .dead :: .dead :: .dead :: .dead :: .dead :: .dead :: .dead :: .dead :: .dead :: .dead :: .dead :: .dead :: .dead :: .dead :: .dead :: .dead :: .dead :: .dead :: .dead :: .dead :: (.map t.length (List.range t.length) (tab rowU M)) :: .dead :: .dead :: .dead :: .dead :: .dead :: .dead :: .dead :: .dead :: .dead :: .dead :: .dead :: .dead :: .dead :: .dead :: .dead :: .dead :: .dead :: .dead :: .dead :: .dead :: .dead :: .dead :: .dead :: .dead :: .dead :: .dead :: .dead :: .dead :: .dead :: .dead :: .dead :: .dead :: .dead :: .dead :: .dead :: (.iter (.mp 23) t.length s.1 t.length) :: .dead :: .dead :: .dead :: .dead :: .dead :: .dead :: .dead :: .dead :: .dead :: .dead :: .dead :: .dead :: .dead :: .dead :: .dead :: .dead :: .dead :: .dead :: .dead :: .dead :: .dead :: .dead :: .dead :: .dead :: .dead :: .dead :: .dead :: .dead :: .dead :: .dead :: .dead :: .dead :: [])⟩) (fun s => (List.range t.length).length - s.1.length)
      ⟨[], Seen.nil _, by simp⟩ (Le_drop (by simp [leE]) (by simp [leH]) rfl rfl) fun s => ?_)
    obtain ⟨sn, hsn, hgd⟩ := s
    dsimp only
    ((refine W_seqR ?_); intro K hK; (refine sTf ?_))
    refine ⟨Nat.le_refl _, fun x hx => List.mem_range.1 hx, fun hall => hK _ ?_, fun j x hj hx => hK _ ?_⟩ <;> clear hK K
    · have hG : GT n M := ⟨by omega, by omega, hk.nodup, hk.range, fun r hr p hp => by
        obtain ⟨x, hx, rfl⟩ := mem_getD hr
        exact hgd x (hall x (List.mem_range.2 (by omega))) p hp⟩
      rw [hgT hG]
      (refine W_seq (W_cond rfl (fun h => by cases h) (fun _ => ?_)))
      refine W_exit ?_
      simp only [thenW, blockW, if_true]
      (refine aTf ?_)
      refine W_ret ?_
      (simp only [thenW, blockW, newMQ, resW, resV, asOne_two, newMK, List.getD_cons_zero, List.getD_cons_succ])
      exact ⟨_, _, _, rfl, rfl⟩
    · obtain ⟨hjl, rfl⟩ := range_get hj
      have hXj : (tab rowU M).getD x [] = rowU (M.getD x default) := tab_getD (by omega)
      have hs2 := hsn.snoc hj hx
      have hmu := hsn.lt hj hx
      have hqm : M.getD x default ∈ M := getD_mem (by omega)
      have hql := hfl _ hqm
      have hqg : ∀ p ∈ (M.getD x default).2, ¬ ((0 ≤ p.1 ∧ p.1 < n) ∧ p.1 ∉ keys M) → ¬ GT n M := fun p hp h h' => h (h'.free _ hqm p hp)
      have hg2 : (∀ p ∈ (M.getD x default).2, (0 ≤ p.1 ∧ p.1 < n) ∧ p.1 ∉ keys M) → ∀ y ∈ sn ++ [x], ∀ p ∈ (M.getD y default).2, (0 ≤ p.1 ∧ p.1 < n) ∧ p.1 ∉ keys M := fun h y hy => by
        rcases List.mem_append.1 hy with hy | hy
        · exact hgd y hy
        · simp at hy; subst hy; exact h
      generalize M.getD x default = q at *
      obtain ⟨b, f⟩ := q
      simp only [rowU] at hXj
      dsimp only at *
      rw [hXj]
      (refine W_seq (W_cond rfl (fun _ => ?_) (fun h => by cases h)))
      refine W_skip ?_
      simp only [thenW]
      refine W_block ?_
      ((refine W_seqR ?_); intro K hK; (refine sTf ?_))
      refine ⟨x, x, by simp, hj, ?_⟩
      (refine sTfX hXj ?_; try exact True.intro)
      (refine hK _ ?_; clear hK K)
      ((refine W_seqV ?_); intro K hK; (refine sTf ?_))
      (refine hK _ ?_; clear hK K)
      refine W_block (W_loop (fun s : {k : Nat // k ≤ f.length ∧ ∀ i, i < k → (0 ≤ (f.getD i default).1 ∧ (f.getD i default).1 < n) ∧ (f.getD i default).1 ∉ keys M} =>
        ⟨(.any :: (.ptr 1 0 0) :: .nilmp :: (.bool false) :: (.mp 23) :: .any :: .any :: .any :: .any :: .any :: .any :: .any :: .any :: .any :: .any :: .any :: .any :: .any :: .any :: .any :: .any :: .any :: .any :: .any :: .any :: .any :: .any :: .any :: .any :: .any :: .any :: .any :: .any :: .any :: .any :: .any :: .any :: .any :: .any :: .any :: .any :: .any :: .any :: .any :: .any :: .any :: .any :: .any :: .any :: .any :: .any :: .any :: .any :: .any :: .any :: .any :: .any :: .any :: .any :: (.it 59) :: .any :: .any :: .any :: .any :: (.sl (tab rowQ f)) :: (.int .i64 f.length) :: (.int .i64 s.1) :: .any :: .any :: .any :: .any :: .any :: .any :: .any :: .any :: .any :: .any :: .any :: .any :: .any :: .any :: .any :: .any :: .any :: .any :: .any :: .any :: .any :: .any :: .any :: .any :: .any :: []),
         (.dead :: (.arr 24 2 false [[.int .i64 n, .sl (tab rowT t)]]) :: .dead :: .dead :: .dead :: .dead :: .dead :: .dead :: .dead :: .dead :: .dead :: .dead :: .dead :: .dead :: .dead :: .dead :: .dead :: .dead :: .dead :: .dead :: .dead :: .dead :: .dead :: (.map t.length (List.range t.length) (tab rowU M)) :: .dead :: .dead :: .dead :: .dead :: .dead :: .dead :: .dead :: .dead :: .dead :: .dead :: .dead :: .dead :: .dead :: .dead :: .dead :: .dead :: .dead :: .dead :: .dead :: .dead :: .dead :: .dead :: .dead :: .dead :: .dead :: .dead :: .dead :: .dead :: .dead :: .dead :: .dead :: .dead :: .dead :: .dead :: .dead :: (.iter (.mp 23) t.length (sn ++ [x]) t.length) :: .dead :: .dead :: .dead :: .dead :: .dead :: .dead :: .dead :: .dead :: .dead :: .dead :: .dead :: .dead :: .dead :: .dead :: .dead :: .dead :: .dead :: .dead :: .dead :: .dead :: .dead :: .dead :: .dead :: .dead :: .dead :: .dead :: .dead :: .dead :: .dead :: .dead :: .dead :: .dead :: [])⟩) (fun s => f.length - s.1)
        ⟨0, by omega, by omega⟩ (Le_drop (by simp [leE]) (by simp [leH]) rfl rfl) fun s => ?_)
      obtain ⟨k, hkl, hpre⟩ := s
      dsimp only
      by_cases hlt : k < f.length
      · have hfk : (tab rowQ f).getD k [] = rowQ (f.getD k default) := tab_getD hlt
        have hpm : f.getD k default ∈ f := getD_mem hlt
        have hbad := hqg _ hpm
        have hpr : (0 ≤ (f.getD k default).1 ∧ (f.getD k default).1 < n) ∧ (f.getD k default).1 ∉ keys M → ∀ i, i < k + 1 → (0 ≤ (f.getD i default).1 ∧ (f.getD i default).1 < n) ∧ (f.getD i default).1 ∉ keys M := fun h i hi => by
          by_cases hik : i = k
          · subst hik; exact h
          · exact hpre i (by omega)
        generalize f.getD k default = p at *
        obtain ⟨v, y⟩ := p
        simp only [rowQ] at hfk
        dsimp only at *
        refine W_seq ?_
        ((refine W_regV ?_); intro K hK; (refine sTfX hlt ?_))
        (refine hK _ ?_; clear hK K)
        (refine W_seq (W_cond rfl (fun _ => ?_) (fun h => by cases h)))
        refine W_skip ?_
        simp only [thenW]
        refine W_seq ?_
        refine W_block ?_
        ((refine W_seqV ?_); intro K hK; (refine sTfX (And.intro hfk hlt) ?_))
        (refine hK _ ?_; clear hK K)
        cases hid : idxM M v with
        | some j =>
          obtain ⟨hj1, hj2, _, hj3⟩ := idx_some hid
          have hXv : (tab rowU M).getD j [] = rowU (M.getD j default) := rowU_getD hj1
          rw [hgF (hbad fun h => h.2 hj3)]
          generalize M.getD j default = q at *
          simp only [rowU] at hXv
          ((refine W_seqV ?_); intro K hK; (refine sTfX (And.intro hid hXv) ?_))
          (refine hK _ ?_; clear hK K)
          ((refine W_seqV ?_); intro K hK; (refine sTf ?_))
          (refine hK _ ?_; clear hK K)
          (refine W_cond rfl (fun _ => ?_) (fun h => by cases h))
          (refine aTf ?_)
          refine W_ret ?_
          (simp only [thenW, blockW, newMQ, resW, resV, asOne_two, newMK, List.getD_cons_zero, List.getD_cons_succ]); simp
        | none =>
          have hni2 := (idx_none hid).1
          ((refine W_seqV ?_); intro K hK; (refine sTfX hid ?_))
          (refine hK _ ?_; clear hK K)
          by_cases h3 : v < 0
          · rw [hgF (hbad fun h => by omega)]
            ((refine W_seqV ?_); intro K hK; (refine sTfX h3 ?_))
            (refine hK _ ?_; clear hK K)
            (refine W_cond rfl (fun _ => ?_) (fun h => by cases h))
            (refine aTf ?_)
            refine W_ret ?_
            (simp only [thenW, blockW, newMQ, resW, resV, asOne_two, newMK, List.getD_cons_zero, List.getD_cons_succ]); simp
          · by_cases h4 : n ≤ v
            · rw [hgF (hbad fun h => by omega)]
              ((refine W_seqV ?_); intro K hK; (refine sTfX (And.intro h3 h4) ?_))
              (refine hK _ ?_; clear hK K)
              (refine W_cond rfl (fun _ => ?_) (fun h => by cases h))
              (refine aTf ?_)
              refine W_ret ?_
              (simp only [thenW, blockW, newMQ, resW, resV, asOne_two, newMK, List.getD_cons_zero, List.getD_cons_succ]); simp
            · ((refine W_seqV ?_); intro K hK; (refine sTfX (And.intro h3 h4) ?_))
              (refine hK _ ?_; clear hK K)
              (refine W_cond rfl (fun h => by cases h) (fun _ => ?_))
              refine W_skip ?_
              simp only [thenW, blockW]
              ((refine W_regV ?_); intro K hK; (refine sTf ?_))
              (refine hK _ ?_; clear hK K)
              simp only [blockW, thenW]
              refine ⟨⟨k + 1, by omega, hpr ⟨⟨by omega, by omega⟩, hni2⟩⟩, Le_drop (by simp [leE]) (by simp [leH]) rfl rfl, ?_⟩
              dsimp only
              omega
      · obtain rfl : k = f.length := by omega
        refine W_seq ?_
        ((refine W_regV ?_); intro K hK; (refine sTf ?_))
        (refine hK _ ?_; clear hK K)
        (refine W_seq (W_cond rfl (fun h => by cases h) (fun _ => ?_)))
        refine W_exit ?_
        simp only [thenW, blockW, if_true]
        refine ⟨⟨sn ++ [x], hs2, hg2 fun p hp => ?_⟩, Le_drop (by simp [leE]) (by simp [leH]) rfl rfl, ?_⟩
        · obtain ⟨i, hi, rfl⟩ := mem_getD hp
          exact hpre i hi
        · exact hmu
end Go.Proofs.YtjmpajgjaefcjaaGreat.Vm

namespace Go.Proofs.YtjmpajgjaefcjaaGreat.Vm
open Go Go.RowKit
theorem sTg {G G':Prop} (h:G') (e:G=G':=by conv=>lhs;simp (disch:=omega) only [rowsOf,cNat,cN,St.ret,St.seth,Eff.app,Eff.wi,sepL,guardOf,St.known,objOf,List.set,sliceW,litW,copyW,lenOf,bnd,mxOk,ofCells,TI.isAgg,cellsOf,storable,AV.one,dead,laid,overlay,reduceCtorEq,Int.reduceLE,Int.reduceLT,Int.reduceSub,Int.reduceAdd,Nat.reduceMul,Int.reduceToNat,Nat.reducePow,Int.reduceNeg,Nat.reduceAdd,Nat.reduceLT,Nat.reduceLeDiff,sA,sB,Nat.reduceEqDiff,cQ,rowQ,rowU,rowT,rowM,i64s_getD,i64s_length,i64s_all,tab_length,tab_drop,tab_take,tab_append,tab_nil,rowT_all,rowT_one,rowT_pure,rowU_all,rowU_one,rowU_pure,rowQ_all,rowQ_one,rowQ_pure,List.take_length,List.length_append,findA_tab,range_snoc,pure_sl,sT]):G:=e.mpr h
theorem sTgX {G G' P:Prop} (p:P) (h:G') (e:P→G=G':=by intro p;conv=>lhs;simp (disch:=omega) only [rowsOf,cNat,cN,St.ret,St.seth,Eff.app,Eff.wi,sepL,guardOf,St.known,objOf,List.set,sliceW,litW,copyW,lenOf,bnd,mxOk,ofCells,TI.isAgg,cellsOf,storable,AV.one,dead,laid,overlay,reduceCtorEq,Int.reduceLE,Int.reduceLT,Int.reduceSub,Int.reduceAdd,Nat.reduceMul,Int.reduceToNat,Nat.reducePow,Int.reduceNeg,Nat.reduceAdd,Nat.reduceLT,Nat.reduceLeDiff,sA,sB,Nat.reduceEqDiff,cQ,rowQ,rowU,rowT,rowM,i64s_getD,i64s_length,i64s_all,tab_length,tab_drop,tab_take,tab_append,tab_nil,rowT_all,rowT_one,rowT_pure,rowU_all,rowU_one,rowU_pure,rowQ_all,rowQ_one,rowQ_pure,List.take_length,List.length_append,findA_tab,range_snoc,pure_sl,sT,p]):G:=(e p).mpr h
theorem sTgV {G G':Prop} (h:G') (e:G=G':=by conv=>lhs;simp (disch:=omega) only [rowsOf,cNat,cN,St.ret,St.seth,Eff.app,Eff.wi,sepL,guardOf,St.known,objOf,List.set,sliceW,litW,copyW,lenOf,bnd,mxOk,ofCells,TI.isAgg,cellsOf,storable,AV.one,dead,laid,overlay,reduceCtorEq,Int.reduceLE,Int.reduceLT,Int.reduceSub,Int.reduceAdd,Nat.reduceMul,Int.reduceToNat,Nat.reducePow,Int.reduceNeg,Nat.reduceAdd,Nat.reduceLT,Nat.reduceLeDiff,sA,sB,Nat.reduceEqDiff,cQ,rowQ,rowU,rowT,rowM,i64s_getD,i64s_length,i64s_all,tab_length,tab_drop,tab_take,tab_append,tab_nil,rowT_all,rowT_one,rowT_pure,rowU_all,rowU_one,rowU_pure,rowQ_all,rowQ_one,rowQ_pure,List.take_length,List.length_append,findA_tab,range_snoc,pure_sl,sT,view_sref,viewRef,view_agg,views_cons,views_nil,view_bool,view_int,view_sl,view_nils,view_str,view_tup,view_nilif]):G:=e.mpr h
theorem aTg {G G':Prop} (h:G') (f:Wr G'→G:=by intro h;(repeat (first|(refine W_seqV fun K hK=>?_;(try (refine sTg ?_;try exact True.intro));(repeat refine aI ?_);refine hK _ ?_;clear hK K)|(refine W_seqR fun K hK=>?_;(try (refine sTg ?_;try exact True.intro));(repeat refine aI ?_);refine hK _ ?_;clear hK K)|(refine W_seqD mixed [] (by kernel_rfl) fun K hK=>?_;(try (refine sTg ?_;try exact True.intro));(repeat refine aI ?_);refine hK _ ?_;clear hK K)));exact h.out):G:=f ⟨h⟩
def loadV (n:Int) (t:TR):AV:=if goodB n (nrmT t) then .tup [.md t.length (List.range t.length) (tab rowU (nrmT t)),.bool true] else .tup [.nilmp,.bool false]
theorem tload_ok (n:Int) (t:TR) {B:Nat} (hf:∀ r∈t,FOk r.2 B) (hB:B<17179869184) (hl:t.length<1099511627776) :
  Pure Tryz.prog 62 [cT n t] (·=loadV n t):=by
 refine (tload_new n t hf hB hl).pure.mono fun r hr=>?_
 unfold loadR at hr
 unfold loadV
 generalize goodB n (nrmT t)=gb at *
 cases gb
 ·simp only [Bool.false_eq_true,if_false] at hr ⊢
  rcases hr with ⟨_,rfl⟩ | ⟨c,bs,rows,h1,rfl⟩
  ·rfl
  ·cases h1
 ·simp only [if_true] at hr ⊢
  rcases hr with ⟨h1,_⟩ | ⟨c,bs,rows,h1,rfl⟩
  ·cases h1
  ·cases h1;rfl
def tb:TM→Nat
 | []=>0
 | r::M=>nbs r.2+1+tb M
theorem tb_len:∀ M:TM,M.length≤tb M
 | []=>Nat.le_refl _
 | r::M=>by have:=tb_len M;simp only [List.length_cons,tb];omega
theorem tb_mem {M:TM} {r:Int × List (Int × Rat)} (h:r∈M):nbs r.2+1≤tb M:=by
 induction M with
 | nil=>cases h
 | cons q M ih =>
  simp only [tb]
  rcases List.mem_cons.1 h with rfl | h
  ·omega
  ·have:=ih h;omega
def sumN' (g:Int→Nat):TM→Nat
 | []=>0
 | r::M=>g r.1+sumN' g M
theorem sumN'_le {g h:Int→Nat}:∀ M:TM,(∀ b,g b≤h b)→sumN' g M≤sumN' h M
 | [],_=>Nat.le_refl _
 | r::M,hg=>by have:=sumN'_le M hg;have:=hg r.1;simp only [sumN'];omega
theorem sumN'_add (g h:Int→Nat):∀ M:TM,sumN' (fun b=>g b+h b) M=sumN' g M+sumN' h M
 | []=>rfl
 | r::M=>by simp only [sumN',sumN'_add g h M];omega
theorem sumN'_zero {g:Int→Nat}:∀ M:TM,(∀ b∈keys M,g b=0)→sumN' g M=0
 | [],_=>rfl
 | r::M,h=>by
  simp only [sumN',sumN'_zero M fun b hb=>h b (by simp only [keys,List.map_cons,List.mem_cons];exact .inr hb),h r.1 (by simp [keys])]
theorem sumN'_one {k:Nat} {a:Int}:∀ M:TM,(keys M).Nodup→sumN' (fun b=>if a=b then k else 0) M≤k
 | [],_=>Nat.zero_le _
 | r::M,hn=>by
  simp only [keys,List.map_cons,List.nodup_cons] at hn
  simp only [sumN']
  by_cases h:a=r.1
  ·rw [if_pos h,sumN'_zero M fun b hb=>by
    rw [if_neg]
    rintro rfl
    exact hn.1 (h ▸ hb)]
   omega
  ·rw [if_neg h]
   have:=sumN'_one (k:=k) (a:=a) M hn.2
   omega
theorem sumN'_nbv {M:TM} (hn:(keys M).Nodup):∀ f:List (Int × Rat),sumN' (fun b=>nbv f b) M≤nbs f
 | []=>by
  have:sumN' (fun b=>nbv [] b) M=0:=sumN'_zero M fun _ _=>rfl
  omega
 | p::f=>by
  have h1:=sumN'_nbv hn f
  have h2:=sumN'_one (k:=nb p.2) (a:=p.1) M hn
  have h3:sumN' (fun b=>nbv (p::f) b) M=sumN' (fun b=>if p.1=b then nb p.2 else 0) M+sumN' (fun b=>nbv f b) M:=by
   rw [← sumN'_add]
   rfl
  rw [h3,nbs]
  omega
theorem sumN'_const (k:Nat):∀ M:TM,sumN' (fun _=>k) M=k*M.length
 | []=>by simp [sumN']
 | r::M=>by simp only [sumN',sumN'_const k M,List.length_cons,Nat.mul_succ];omega
theorem nb_sumM (c:Int→Rat) (x:Int):∀ M:TM,nb (sumM c x M)≤1+sumN' (fun b=>nb (c b)) M+tb M
 | []=>by simp only [sumM,nb_zero];omega
 | r::M=>by
  have h1:=nb_sumM c x M
  have h2:=nb_add (c r.1*coef r.2 x) (sumM c x M)
  have h3:=nb_mul (c r.1) (coef r.2 x)
  have h4:=nb_coef r.2 x
  have h5:=nbv_le_nbs r.2 x
  simp only [sumM,sumN',tb]
  omega
theorem nb_expr {M:TM} (hn:(keys M).Nodup) (f:List (Int × Rat)) {c:Int→Rat} (hc:∀ b,c b=coef f b∨c b=0) {y:Rat} {x:Int} (hy:y=coef f x∨y=0):nb (y+sumM c x M)≤2*nbs f+2*tb M+2:=by
 have h1:=nb_add y (sumM c x M)
 have h2:=nb_sumM c x M
 have h3:nb y≤1+nbs f:=by
  rcases hy with rfl | rfl
  ·have:=nb_coef f x
   have:=nbv_le_nbs f x
   omega
  ·rw [nb_zero];omega
 have h4:sumN' (fun b=>nb (c b)) M≤sumN' (fun b=>1+nbv f b) M:=sumN'_le M fun b=>by
  rcases hc b with h | h
  ·rw [h];exact nb_coef f b
  ·rw [h,nb_zero];omega
 rw [sumN'_add (fun _=>1) (fun b=>nbv f b),sumN'_const] at h4
 have h5:=sumN'_nbv hn f
 have h6:=tb_len M
 omega
theorem nbv_nf {l:List (Int × Rat)} (h:NF l) (x:Int):nbv l x≤nb (coef l x):=by
 induction l with
 | nil=>simp [nbv]
 | cons p l ih =>
  have ih:=ih h.tail
  simp only [nbv,coef]
  by_cases hx:p.1=x
  ·rw [if_pos hx,if_pos hx,nbv_none fun q hq he=>by have:=h.head q hq;omega,coef_none fun q hq he=>by have:=h.head q hq;omega,Rat.add_zero]
   omega
  ·rw [if_neg hx,if_neg hx,Rat.zero_add]
   omega
theorem nf_len {l:List (Int × Rat)} (h:NF l) {n:Int} (hn:n≤65536) (hr:∀ p∈l,0≤p.1∧p.1<n):l.length≤65536:=by
 have hnd:(keys l).Nodup:=by
  have:=h.lt
  unfold keys
  rw [List.Nodup,List.pairwise_map]
  exact this.imp fun h=>by omega
 have hnd2:((keys l).map Int.toNat).Nodup:=by
  rw [List.Nodup,List.pairwise_map]
  refine List.Pairwise.imp_of_mem (fun {a b} ha hb hab he=>?_) hnd
  obtain ⟨p,hp,rfl⟩:=List.mem_map.1 ha
  obtain ⟨q,hq,rfl⟩:=List.mem_map.1 hb
  have:=hr p hp
  have:=hr q hq
  exact hab (by omega)
 have h1:=nodup_range_le (n:=65536) hnd2 fun x hx=>by
  obtain ⟨a,ha,rfl⟩:=List.mem_map.1 hx
  obtain ⟨p,hp,rfl⟩:=List.mem_map.1 ha
  have:=hr p hp
  omega
 simpa [keys_len] using h1
theorem sz_nf {l:List (Int × Rat)} (h:NF l) {n:Int} (hn:n≤65536) (hr:∀ p∈l,0≤p.1∧p.1<n) {B:Nat} (hb:∀ x,nb (coef l x)≤B):Sz l (B+65536) :=
 ⟨fun v=>by have:=nbv_nf h v;have:=hb v;omega,by have:=nf_len h hn hr;omega⟩
theorem sumM_out {n:Int} {M:TM} (hg:GT n M) (c:Int→Rat) {x:Int} (hx:¬ (0≤x∧x<n)):sumM c x M=0 :=
 sumM_zero c x M fun r hr => .inr (coef_none fun p hp he=>hx (he ▸ (hg.free r hr p hp).1))
theorem coef_out {n:Int} {f:List (Int × Rat)} (hf:knownB n (normF f)=true) {x:Int} (hx:¬ (0≤x∧x<n)):coef f x=0:=by
 rw [← coef_norm]
 refine coef_none fun p hp he=>hx ?_
 unfold knownB at hf
 have:=List.all_eq_true.1 hf p hp
 rw [inR_iff] at this
 omega
theorem range_of_coef {n:Int} {l:List (Int × Rat)} (h:NF l) (hc:∀ x,¬ (0≤x∧x<n)→coef l x=0):∀ p∈l,0≤p.1∧p.1<n:=by
 intro p hp
 by_cases h1:0≤p.1∧p.1<n
 ·exact h1
 ·have:=hc p.1 h1
  rw [h.coef_zero hp] at this
  exact absurd this (h.nz p hp)
theorem exprP_snoc (M:TM) (f:List (Int × Rat)) (vs:List Int) (v:Int) (h:List (Int × Rat)):exprP M f (vs++[v]) h=match lookM M v with | some g=>putF (exprP M f vs h) v g | none=>exprP M f vs h:=by
 unfold exprP
 rw [List.foldl_append]
 rfl
theorem keys_nf_nodup {l:List (Int × Rat)} (h:NF l):(keys l).Nodup:=by
 have:=h.lt
 unfold keys
 rw [List.Nodup,List.pairwise_map]
 exact this.imp fun h=>by omega
def exprT (M:TM) (f:List (Int × Rat)):List (Int × Rat):=exprP M f (keys (normF f)) (normF f)
structure ExOk (M:TM) (f:List (Int × RR)):Prop where
 fok:FOk f 536870912
 ro:∀ r∈M,Sz r.2 536870912
 co:∀ (i:Nat) (x:Int) (y:Rat) (c:Int→Rat),(∀ b,c b=coef (vals f) b∨c b=0)→(y=coef (vals f) x∨y=0)→nb (y+sumM c x (M.take i))≤536870912
theorem exprP_preG {n:Int} {M:TM} (hg:GT n M) {f:List (Int × RR)} (hf:knownB n (normF (vals f))=true) (hx:ExOk M f) (i:Nat) :
  NF (exprP M (vals f) ((keys (normF (vals f))).take i) (normF (vals f)))∧Sz (exprP M (vals f) ((keys (normF (vals f))).take i) (normF (vals f))) (536870912+65536):=by
 have h:=exprP_go hg (vals f) ((keys (normF (vals f))).take i) [] (normF (vals f)) (NF.norm _) ((keys_nf_nodup (NF.norm _)).sublist (List.take_sublist _ _)) (by simp) fun x=>by
  rw [coef_norm,sumM_zero _ x M fun r _ => .inl (by simp)]
  simp [Rat.add_zero]
 refine ⟨h.1,?_⟩
 refine sz_nf h.1 hg.hi (range_of_coef h.1 fun x hx=>?_) fun x=>?_
 ·rw [h.2 x,sumM_out hg _ hx,coef_out hf hx]
  simp [Rat.add_zero]
 ·rw [h.2 x]
  have:=hx.co M.length x (if x∈keys M∧(x∈([]:List Int)∨x∈(keys (normF (vals f))).take i) then 0 else coef (vals f) x) (fun b=>if b∈([]:List Int)∨b∈(keys (normF (vals f))).take i then coef (vals f) b else 0) (fun b=>by
   split
   ·exact .inl rfl
   ·exact .inr rfl) (by
   split
   ·exact .inr rfl
   ·exact .inl rfl)
  rwa [List.take_length] at this
theorem tb_take:∀ (l:TM) (k:Nat),tb (l.take k)≤tb l:=by
 intro l
 induction l with
 | nil=>intro k;simp [tb]
 | cons r l ih=>intro k;cases k with
  | zero=>simp [tb]
  | succ k=>have:=ih k;simp only [List.take_succ_cons,tb];omega
theorem keys_take {M:TM} (hn:(keys M).Nodup) (i:Nat):(keys (M.take i)).Nodup:=by
 have h2:keys M=keys (M.take i)++keys (M.drop i):=by rw [← keys_append,List.take_append_drop]
 rw [h2,List.nodup_append] at hn
 exact hn.1
theorem ExOk.of {M:TM} (hn:(keys M).Nodup) {f:List (Int × RR)} (hf:FOk f (nbs (vals f))) (h1:nbs (vals f)≤68157440) (h2:tb M≤68157440):ExOk M f :=
 ⟨⟨hf.1,hf.sz.mono (by omega)⟩,fun r hr=>(Sz.of _).mono (by have:=tb_mem hr;omega),fun i x y c hc hy=>by
  have:=nb_expr (keys_take hn i) (vals f) hc hy
  have:=tb_take M i
  omega⟩
theorem texpr_ok {n:Int} (M:TM) (f:List (Int × RR)) (c:Nat) (bs:List Nat) (hg:GT n M) (hM:∀ r∈M,NF r.2) (hk:knownB n (normF (vals f))=true) (hx:ExOk M f)
  (hb:bs.length=M.length) (hn:bs.Nodup) (hlt:∀ x∈bs,x<c) :
  Pure Tryz.prog 67 [.md c bs (tab rowU M),cF f] (·=cL (exprT M (vals f))):=by
 have hf:=hx.fok
 have a1:=lnorm_ok f hf (by omega)
 have hsn:=hf.sz.norm
 have a2:=lvars_ok (rf (normF (vals f))) (FOk.rf hsn (by omega)) (by omega)
 rw [vals_rf,norm_self (NF.norm _),cF_rf] at a2
 have hpre:=fun i=>exprP_preG hg hk hx i
 have hst:∀ i,i<(keys (normF (vals f))).length→(∀ g,lookM M ((keys (normF (vals f))).getD i 0)=some g→Pure Tryz.prog 95 [cL (exprP M (vals f) ((keys (normF (vals f))).take i) (normF (vals f))),.int .i64 ((keys (normF (vals f))).getD i 0),cL g] (·=cL (exprP M (vals f) ((keys (normF (vals f))).take (i+1)) (normF (vals f))))) ∧
   (lookM M ((keys (normF (vals f))).getD i 0)=none→exprP M (vals f) ((keys (normF (vals f))).take (i+1)) (normF (vals f))=exprP M (vals f) ((keys (normF (vals f))).take i) (normF (vals f))):=by
  intro i hi
  have hts:(keys (normF (vals f))).take (i+1)=(keys (normF (vals f))).take i++[(keys (normF (vals f))).getD i 0]:=by
   rw [List.take_succ_eq_append_getElem hi]
   simp [List.getD_eq_getElem?_getD,hi]
  rw [hts,exprP_snoc]
  refine ⟨fun g hg'=>?_,fun hn'=>by rw [hn']⟩
  rw [hg']
  have hm:=look_mem hg'
  exact tput_ok _ _ _ (hpre i).2 (hx.ro _ hm) (by omega)
 have h0:exprP M (vals f) ((keys (normF (vals f))).take 0) (normF (vals f))=normF (vals f):=rfl
 have hall:exprP M (vals f) ((keys (normF (vals f))).take (keys (normF (vals f))).length) (normF (vals f))=exprT M (vals f):=by rw [List.take_length];rfl
 have hkl:(keys (normF (vals f))).length<1099511627776:=by
  rw [keys_len]
  have:=hsn.l
  omega
 generalize exprT M (vals f)=R at *
 generalize hE:(fun i=>exprP M (vals f) ((keys (normF (vals f))).take i) (normF (vals f)))=E at *
 have hE':∀ i,exprP M (vals f) ((keys (normF (vals f))).take i) (normF (vals f))=E i:=fun i=>congrFun hE i
 simp only [hE'] at *
 clear hE hE'
 rw [show (normF (vals f)).map (·.1)=keys (normF (vals f)) from rfl] at a2
 generalize keys (normF (vals f))=l at *
 generalize normF (vals f)=F0 at *
 subst h0
 simp only [cF,cL] at *
 (refine pureW Tryz.func67 rfl (rs:=[Go.ResultVar.tmp 4]) rfl (n:=31) rfl ?_;simp only [List.length_cons,List.length_nil,List.replicate,List.cons_append,List.nil_append])
 (refine aTg ?_)
 ((refine W_seqV ?_);intro K hK;(refine sTg ?_))
 (refine ⟨by kernel_rfl,_,.pure rfl (a1),?_⟩;(try (refine sTg ?_)))
 (refine hK _ ?_;clear hK K)
 ((refine W_seq (W_seqV ?_));intro K hK;(refine sTg ?_))
 (refine ⟨by kernel_rfl,_,.pure rfl (a2),?_⟩;(try (refine sTg ?_)))
 (refine hK _ ?_;clear hK K)
 refine W_block (W_loop (fun t:{t:Nat // t≤l.length} =>
   ⟨[.md c bs (tab rowU M),.sl (tab rowQ (E t.1)),.any,.any,.any,.any,.any,.any,.any,.any,.any,.any,.sl (i64s l),.int .i64 l.length,.int .i64 t.1,.any,.any,.any,.any,.any,.any,.any,.any,.any,.any,.any,.any,.any,.any,.any,.any],[.dead,.dead,.dead,.dead,.dead,.dead,.dead,.dead,.dead,.dead,.dead,.dead,.dead,.dead,.dead,.dead,.dead,.dead,.dead,.dead,.dead,.dead,.dead,.dead,.dead,.dead,.dead,.dead,.dead,.dead,.dead]⟩) (fun t=>l.length-t.1)
   ⟨0,by omega⟩ (Le_of (by simp [leE]) (by simp)) fun t=>?_)
 obtain ⟨i,hi⟩:=t
 dsimp only
 by_cases hil:i<l.length
 ·obtain ⟨hs1,hs2⟩:=hst i hil
  generalize hv:l.getD i 0=v at *
  generalize ho':E (i+1)=o' at *
  generalize E i=o at *
  refine W_seq ?_
  ((refine W_regV ?_);intro K hK;(refine sTgX hil ?_))
  (refine hK _ ?_;clear hK K)
  (refine W_seq (W_ct rfl ?_))
  refine W_skip ?_
  simp only [thenW]
  refine W_seq ?_
  refine W_block ?_
  ((refine W_seqV ?_);intro K hK;(refine sTgX (And.intro hv hil) ?_))
  (refine hK _ ?_;clear hK K)
  cases hid:idxM M v with
  | some j =>
   obtain ⟨hj1,hj2,hj3,_⟩:=idx_some hid
   have hXv:(tab rowU M).getD j []=rowU (M.getD j default):=rowU_getD hj1
   have hp:=hs1 _ hj3
   generalize M.getD j default=q at *
   obtain ⟨b,g⟩:=q
   simp only [rowU] at hXv
   dsimp only at *
   refine W_seq ?_
   ((refine W_regV ?_);intro K hK;(refine sTgX (And.intro hid hXv) ?_))
   (refine hK _ ?_;clear hK K)
   simp only [thenW]
   (refine aTg ?_)
   (refine W_ct rfl ?_)
   ((refine W_regV ?_);intro K hK;(refine sTg ?_))
   (refine ⟨by kernel_rfl,_,.pure rfl (hp),?_⟩;(try (refine sTg ?_)))
   (refine hK _ ?_;clear hK K)
   simp only [blockW,thenW]
   ((refine W_regV ?_);intro K hK;(refine sTg ?_))
   (refine hK _ ?_;clear hK K)
   simp only [blockW,thenW]
   refine ⟨⟨i+1,by omega⟩,Le_drop (by simp [leE,ho']) (by simp [leH]) rfl rfl,?_⟩
   dsimp only
   omega
  | none =>
   have hp:=hs2 (idx_none hid).2
   refine W_seq ?_
   ((refine W_regV ?_);intro K hK;(refine sTgX hid ?_))
   (refine hK _ ?_;clear hK K)
   simp only [thenW]
   (refine aTg ?_)
   (refine W_cf rfl ?_)
   refine W_skip ?_
   simp only [blockW,thenW]
   ((refine W_regV ?_);intro K hK;(refine sTg ?_))
   (refine hK _ ?_;clear hK K)
   simp only [blockW,thenW]
   refine ⟨⟨i+1,by omega⟩,Le_drop (by simp [leE,hp,ho']) (by simp [leH]) rfl rfl,?_⟩
   dsimp only
   omega
 ·obtain rfl:i=l.length:=by omega
  rw [hall]
  refine W_seq ?_
  ((refine W_regV ?_);intro K hK;(refine sTg ?_))
  (refine hK _ ?_;clear hK K)
  (refine W_seq (W_cf rfl ?_))
  refine W_exit ?_
  simp only [thenW,blockW,if_true]
  (refine aTg ?_)
  refine W_ret ?_
  (refine qG ?_;try exact True.intro);try (refine sTgV ?_;try exact True.intro)
structure TOk (t:TR):Prop where
 ok:∀ r∈t,∀ p∈r.2,p.2.ok
 sz:tb (t.map fun r=>(r.1,vals r.2))≤68157440
theorem tb_nrm:∀ t:TR,tb (nrmT t)≤tb (t.map fun r=>(r.1,vals r.2))
 | []=>Nat.le_refl _
 | r::t=>by
  have:=tb_nrm t
  have:=nbs_norm (vals r.2)
  unfold nrmT at *
  simp only [List.map_cons,tb]
  omega
theorem TOk.tb {t:TR} (h:TOk t):Vm.tb (nrmT t)≤68157440:=Nat.le_trans (tb_nrm t) h.sz
theorem TOk.len {t:TR} (h:TOk t):t.length≤68157440:=by
 have:=tb_len (t.map fun r=>(r.1,vals r.2))
 have:=h.sz
 simp at *
 omega
theorem TOk.nbs {t:TR} (h:TOk t) {r:Int × List (Int × RR)} (hr:r∈t):Vm.nbs (vals r.2)≤68157440:=by
 have h1:=tb_mem (M:=t.map fun r=>(r.1,vals r.2)) (r:=(r.1,vals r.2)) (List.mem_map.2 ⟨r,hr,rfl⟩)
 have:=h.sz
 simp only at h1
 omega
theorem TOk.form {t:TR} (h:TOk t) {r:Int × List (Int × RR)} (hr:r∈t):FOk r.2 68157440:=⟨h.ok r hr,(Sz.of _).mono (h.nbs hr)⟩
theorem TOk.mok {t:TR} (h:TOk t):MOk (nrmT t) 68157440:=by
 refine ⟨fun r hr=>?_,fun r hr=>?_,by rw [nrmT_len];have:=h.len;omega⟩
 ·obtain ⟨q,_,rfl⟩:=List.mem_map.1 hr
  exact NF.norm _
 ·have:=tb_mem hr
  have:=h.tb
  exact (Sz.of _).mono (by omega)
structure TG (t:TR):Prop where
 ok:∀ r∈t,∀ p∈r.2,p.2.ok
 sz:∀ r∈t,Sz (vals r.2) 536870912
 len:t.length≤68157440
theorem TOk.g {t:TR} (h:TOk t):TG t:=⟨h.ok,fun r hr=>(h.form hr).sz.mono (by omega),h.len⟩
instance instCoeTG {t:TR}:Coe (TOk t) (TG t):=⟨TOk.g⟩
theorem TG.form {t:TR} (h:TG t) {r:Int × List (Int × RR)} (hr:r∈t):FOk r.2 536870912:=⟨h.ok r hr,h.sz r hr⟩
theorem TG.mok {t:TR} (h:TG t):MOk (nrmT t) 536870912:=by
 refine ⟨fun r hr=>?_,fun r hr=>?_,by rw [nrmT_len];have:=h.len;omega⟩
 ·obtain ⟨q,_,rfl⟩:=List.mem_map.1 hr
  exact NF.norm _
 ·obtain ⟨q,hq,rfl⟩:=List.mem_map.1 hr
  exact (h.sz q hq).norm
theorem TG.load {t:TR} (h:TG t) (n:Int):Pure Tryz.prog 62 [cT n t] (·=loadV n t) :=
 tload_ok n t (fun r hr=>h.form hr) (by omega) (by have:=h.len;omega)
theorem range_births {m:Nat}:(List.range m).length=m∧(List.range m).Nodup∧∀ x∈List.range m,x<m:=⟨List.length_range,List.nodup_range,fun x hx=>List.mem_range.1 hx⟩
theorem TG.told {t:TR} (h:TG t) (n:Int):Pure Tryz.prog 63 [.md t.length (List.range t.length) (tab rowU (nrmT t)),.int .i64 n] (·=cU n (sortM (nrmT t))) :=
 ttold_ok _ n _ _ h.mok (by omega) (by rw [nrmT_len];exact range_births.1) range_births.2.1 range_births.2.2
def normV (n:Int) (t:TR):AV:=if goodB n (nrmT t) then .tup [cU n (sortM (nrmT t)),.int .i64 0] else .tup [cU 0 [],.int .i64 70]
def growV (n:Int) (t:TR):AV:=if goodB n (nrmT t) then if n=65536 then .tup [cU 0 [],.int .i64 0,.int .i64 2] else .tup [cU (n+1) (sortM (nrmT t)),.int .i64 n,.int .i64 0] else .tup [cU 0 [],.int .i64 0,.int .i64 70]
def rowV (n:Int) (t:TR) (v:Int):AV:=if goodB n (nrmT t) then if v<0∨n≤v then .tup [.sl [],.int .i64 61] else match lookM (nrmT t) v with | some g => .tup [cL g,.int .i64 0] | none => .tup [.sl [],.int .i64 71] else .tup [.sl [],.int .i64 70]
def basV (n:Int) (t:TR):AV:=if goodB n (nrmT t) then .tup [.sl (i64s (sortK (keys (nrmT t)))),.int .i64 0] else .tup [.sl [],.int .i64 70]
theorem sUa {G G':Prop} (h:G') (e:G=G':=by conv=>lhs;simp (disch:=omega) only [rowsOf,cNat,cN,St.ret,St.seth,Eff.app,Eff.wi,sepL,guardOf,St.known,objOf,List.set,sliceW,litW,copyW,lenOf,bnd,mxOk,ofCells,TI.isAgg,cellsOf,storable,AV.one,dead,laid,overlay,reduceCtorEq,Int.reduceLE,Int.reduceLT,Int.reduceSub,Int.reduceAdd,Nat.reduceMul,Int.reduceToNat,Nat.reducePow,Int.reduceNeg,Nat.reduceAdd,Nat.reduceLT,Nat.reduceLeDiff,sA,sB,Nat.reduceEqDiff,cQ,rowQ,rowU,rowT,rowM,i64s_getD,i64s_length,i64s_all,i64s_take,i64s_drop,i64s_set,i64s_one,i64s_pure,i64s_append,tab_length,tab_drop,tab_take,tab_append,tab_nil,rowT_all,rowT_one,rowT_pure,rowU_all,rowU_one,rowU_pure,rowQ_all,rowQ_one,rowQ_pure,rowM_all,rowM_one,rowM_pure,List.take_length,List.length_append,sT]):G:=e.mpr h
theorem sUaX {G G' P:Prop} (p:P) (h:G') (e:P→G=G':=by intro p;conv=>lhs;simp (disch:=omega) only [rowsOf,cNat,cN,St.ret,St.seth,Eff.app,Eff.wi,sepL,guardOf,St.known,objOf,List.set,sliceW,litW,copyW,lenOf,bnd,mxOk,ofCells,TI.isAgg,cellsOf,storable,AV.one,dead,laid,overlay,reduceCtorEq,Int.reduceLE,Int.reduceLT,Int.reduceSub,Int.reduceAdd,Nat.reduceMul,Int.reduceToNat,Nat.reducePow,Int.reduceNeg,Nat.reduceAdd,Nat.reduceLT,Nat.reduceLeDiff,sA,sB,Nat.reduceEqDiff,cQ,rowQ,rowU,rowT,rowM,i64s_getD,i64s_length,i64s_all,i64s_take,i64s_drop,i64s_set,i64s_one,i64s_pure,i64s_append,tab_length,tab_drop,tab_take,tab_append,tab_nil,rowT_all,rowT_one,rowT_pure,rowU_all,rowU_one,rowU_pure,rowQ_all,rowQ_one,rowQ_pure,rowM_all,rowM_one,rowM_pure,List.take_length,List.length_append,sT,p]):G:=(e p).mpr h
theorem sUaV {G G':Prop} (h:G') (e:G=G':=by conv=>lhs;simp (disch:=omega) only [rowsOf,cNat,cN,St.ret,St.seth,Eff.app,Eff.wi,sepL,guardOf,St.known,objOf,List.set,sliceW,litW,copyW,lenOf,bnd,mxOk,ofCells,TI.isAgg,cellsOf,storable,AV.one,dead,laid,overlay,reduceCtorEq,Int.reduceLE,Int.reduceLT,Int.reduceSub,Int.reduceAdd,Nat.reduceMul,Int.reduceToNat,Nat.reducePow,Int.reduceNeg,Nat.reduceAdd,Nat.reduceLT,Nat.reduceLeDiff,sA,sB,Nat.reduceEqDiff,cQ,rowQ,rowU,rowT,rowM,i64s_getD,i64s_length,i64s_all,i64s_take,i64s_drop,i64s_set,i64s_one,i64s_pure,i64s_append,tab_length,tab_drop,tab_take,tab_append,tab_nil,rowT_all,rowT_one,rowT_pure,rowU_all,rowU_one,rowU_pure,rowQ_all,rowQ_one,rowQ_pure,rowM_all,rowM_one,rowM_pure,List.take_length,List.length_append,sT,view_sref,viewRef,view_agg,views_cons,views_nil,view_bool,view_int,view_sl,view_nils,view_str,view_tup,view_nilif]):G:=e.mpr h
theorem aUa {G G':Prop} (h:G') (f:Wr G'→G:=by intro h;(repeat (first|(refine W_seqV fun K hK=>?_;(try (refine sUa ?_;try exact True.intro));(repeat refine aI ?_);refine hK _ ?_;clear hK K)|(refine W_seqR fun K hK=>?_;(try (refine sUa ?_;try exact True.intro));(repeat refine aI ?_);refine hK _ ?_;clear hK K)|(refine W_seqD mixed [] (by kernel_rfl) fun K hK=>?_;(try (refine sUa ?_;try exact True.intro));(repeat refine aI ?_);refine hK _ ?_;clear hK K)));exact h.out):G:=f ⟨h⟩
theorem idx_at {M:TM} {v:Int} {i:Nat} (hi:i<M.length) (h:∀ j,j<i→(M.getD j default).1≠v) (he:(M.getD i default).1=v):idxM M v=some i:=by
 unfold idxM
 rw [List.findIdx?_eq_some_iff_getElem]
 refine ⟨hi,?_,fun j hj=>?_⟩
 ·rw [← he]
  simp [List.getD_eq_getElem?_getD,hi]
 ·have:=h j hj
  simp only [List.getD_eq_getElem?_getD,List.getElem?_eq_getElem (show j<M.length by omega),Option.getD_some] at this
  simpa using this
theorem idx_not {M:TM} {v:Int} (h:∀ j,j<M.length→(M.getD j default).1≠v):idxM M v=none:=by
 cases hi:idxM M v with
 | none=>rfl
 | some j =>
  obtain ⟨h1,h2,_⟩:=idx_some hi
  exact absurd h2 (h j h1)
def rowI (M:TM) (v:Int):Int:=match idxM M v with | some j=>(j:Int) | none => -1
theorem r7row_ok (n:Int) (t:TR) (v:Int) (hl:t.length<1099511627776):Pure Tryz.prog 74 [cT n t,.int .i64 v] (· = .int .i64 (rowI (nrmT t) v)):=by
 have hml:=nrmT_len t
 have hnd:∀ i,i<t.length→((nrmT t).getD i default).1=(t.getD i default).1:=fun i hi=>by rw [nrmT_getD hi]
 unfold cT rowI
 generalize nrmT t=M at *
 (refine pureW Tryz.func74 rfl (rs:=[Go.ResultVar.tmp 4]) rfl (n:=22) rfl ?_;simp only [List.length_cons,List.length_nil,List.replicate,List.cons_append,List.nil_append])
 (refine aUa ?_)
 refine W_seq ?_
 ((refine W_seqV ?_);intro K hK;(refine sUa ?_))
 (refine hK _ ?_;clear hK K)
 refine W_block (W_loop (fun s:{i:Nat // i≤t.length∧∀ j,j<i→(M.getD j default).1≠v} =>
   ⟨[.any,.int .i64 v,.ptr 2 0 0,.any,.any,.int .i64 s.1,.any,.any,.any,.any,.any,.any,.any,.any,.any,.any,.any,.any,.any,.any,.any,.any],[.dead,.dead,.arr 24 2 false [[.int .i64 n,.sl (tab rowT t)]],.dead,.dead,.dead,.dead,.dead,.dead,.dead,.dead,.dead,.dead,.dead,.dead,.dead,.dead,.dead,.dead,.dead,.dead,.dead]⟩) (fun s=>t.length-s.1)
   ⟨0,by omega,by omega⟩ (Le_drop (by simp [leE]) (by simp [leH]) rfl rfl) fun s=>?_)
 obtain ⟨i,hi,hpre⟩:=s
 dsimp only
 by_cases hlt:i<t.length
 ·have hti:(tab rowT t).getD i []=rowT (t.getD i default):=tab_getD hlt
  have hat:(M.getD i default).1=v→idxM M v=some i:=fun he=>idx_at (by omega) hpre he
  have hpr:(M.getD i default).1≠v→∀ j,j<i+1→(M.getD j default).1≠v:=fun h j hj=>by
   by_cases hji:j=i
   ·subst hji;exact h
   ·exact hpre j (by omega)
  rw [hnd i hlt] at hat hpr
  generalize t.getD i default=r at *
  obtain ⟨b,f⟩:=r
  simp only [rowT] at hti
  dsimp only at *
  refine W_seq ?_
  ((refine W_seqV ?_);intro K hK;(refine sUaX hlt ?_))
  (refine hK _ ?_;clear hK K)
  (refine W_ct rfl ?_)
  refine W_skip ?_
  simp only [thenW]
  refine W_seq ?_
  refine W_block ?_
  by_cases hb:b=v
  ·have hbb:(b == v)=true:=by simp [hb]
   rw [hat hb]
   ((refine W_seqV ?_);intro K hK;(refine sUaX (And.intro hti (And.intro hlt hbb)) ?_))
   (refine hK _ ?_;clear hK K)
   (refine W_ct rfl ?_)
   (refine aUa ?_)
   refine W_ret ?_
   (refine qG ?_;try exact True.intro);try (refine sUaV ?_;try exact True.intro)
  ·have hbb:(b == v)=false:=by simp [hb]
   ((refine W_seqV ?_);intro K hK;(refine sUaX (And.intro hti (And.intro hlt hbb)) ?_))
   (refine hK _ ?_;clear hK K)
   (refine W_cf rfl ?_)
   refine W_skip ?_
   simp only [thenW,blockW]
   ((refine W_regV ?_);intro K hK;(refine sUa ?_))
   (refine hK _ ?_;clear hK K)
   simp only [blockW,thenW]
   refine ⟨⟨i+1,by omega,hpr hb⟩,Le_drop (by simp [leE]) (by simp [leH]) rfl rfl,?_⟩
   dsimp only
   omega
 ·obtain rfl:i=t.length:=by omega
  rw [idx_not fun j hj=>hpre j (by omega)]
  refine W_seq ?_
  ((refine W_seqV ?_);intro K hK;(refine sUa ?_))
  (refine hK _ ?_;clear hK K)
  (refine W_cf rfl ?_)
  refine W_exit ?_
  simp only [thenW,blockW,if_true]
  (refine aUa ?_)
  refine W_ret ?_
  (refine qG ?_;try exact True.intro);try (refine sUaV ?_;try exact True.intro)
theorem r7is_ok (n:Int) (t:TR) (v:Int):Pure Tryz.prog 73 [cT n t,.int .i64 v] (· = .bool (inR n v)):=by
 unfold cT inR
 by_cases h1:0≤v
 ·(refine pureW Tryz.func73 rfl (rs:=[Go.ResultVar.tmp 4]) rfl (n:=13) rfl ?_;simp only [List.length_cons,List.length_nil,List.replicate,List.cons_append,List.nil_append])
  (refine aUa ?_)
  ((refine W_seqV ?_);intro K hK;(refine sUaX h1 ?_))
  (refine hK _ ?_;clear hK K)
  refine W_ret ?_
  (refine qG ?_;try exact True.intro);try (refine sUaV ?_;try exact True.intro)
  simp [h1]
 ·(refine pureW Tryz.func73 rfl (rs:=[Go.ResultVar.tmp 4]) rfl (n:=13) rfl ?_;simp only [List.length_cons,List.length_nil,List.replicate,List.cons_append,List.nil_append])
  (refine aUa ?_)
  ((refine W_seqV ?_);intro K hK;(refine sUaX h1 ?_))
  (refine hK _ ?_;clear hK K)
  refine W_ret ?_
  (refine qG ?_;try exact True.intro);try (refine sUaV ?_;try exact True.intro)
  simp [h1]
theorem r6vars_ok (f:List (Int × RR)) {B:Nat} (hf:PF f B) (hB:B≤8589934592):Pure Tryz.prog 75 [cF f] (· = .sl (i64s (keys (normF (vals f))))):=by
 have a1:=f6norm_ok f hf hB
 have hl:(normF (vals f)).length<1099511627776:=by
  have:=len_norm (vals f)
  rw [vals_length] at this
  have:=hf.len
  omega
 generalize normF (vals f)=F at *
 have hst:∀ i,i<F.length→keys (F.take (i+1))=keys (F.take i)++[(F.getD i default).1]:=fun i hi=>by rw [take_snoc hi,keys_append];rfl
 have h0:keys (F.take 0)=[]:=rfl
 have hall:keys (F.take F.length)=keys F:=by rw [List.take_length]
 have hln:∀ i,i≤F.length→(keys (F.take i)).length=i:=fun i hi=>by rw [keys_len,List.length_take];omega
 generalize hE:(fun i=>keys (F.take i))=E at *
 have hE':∀ i,keys (F.take i)=E i:=fun i=>congrFun hE i
 simp only [hE'] at *
 clear hE hE'
 rw [← hall]
 simp only [cF,cL] at *
 (refine pureW Tryz.func75 rfl (rs:=[Go.ResultVar.tmp 2]) rfl (n:=23) rfl ?_;simp only [List.length_cons,List.length_nil,List.replicate,List.cons_append,List.nil_append])
 (refine aUa ?_)
 ((refine W_seqV ?_);intro K hK;(refine sUa ?_))
 (refine ⟨by kernel_rfl,_,.pure rfl (a1),?_⟩;(try (refine sUa ?_)))
 (refine hK _ ?_;clear hK K)
 refine W.le ?_ (Le_nil 3 3 3 1 true rfl rfl)
 simp only [List.set]
 (refine aUa ?_)
 refine W_seq ?_
 ((refine W_seqV ?_);intro K hK;(refine sUa ?_))
 (refine hK _ ?_;clear hK K)
 refine W_block (W_loop (fun s:{i:Nat // i≤F.length} =>
   ⟨[.any,.any,.any,.sref 3 0 s.1,.sl (tab rowQ F),.int .i64 s.1,.any,.any,.any,.any,.any,.any,.any,.any,.any,.any,.any,.any,.any,.any,.any,.any,.any],[.dead,.dead,.dead,.arr 3 1 true (i64s (E s.1)),.dead,.dead,.dead,.dead,.dead,.dead,.dead,.dead,.dead,.dead,.dead,.dead,.dead,.dead,.dead,.dead,.dead,.dead,.dead]⟩) (fun s=>F.length-s.1)
   ⟨0,by omega⟩ (Le_drop (by simp [leE]) (by simp [leH,h0,i64s]) rfl rfl) fun s=>?_)
 obtain ⟨i,hi⟩:=s
 dsimp only
 by_cases hlt:i<F.length
 ·have hfi:(tab rowQ F).getD i []=rowQ (F.getD i default):=tab_getD hlt
  have hsi:=hst i hlt
  have hli:=hln i (by omega)
  generalize F.getD i default=p at *
  obtain ⟨v,q⟩:=p
  simp only [rowQ] at hfi
  dsimp only at *
  generalize E i=o at *
  refine W_seq ?_
  ((refine W_seqV ?_);intro K hK;(refine sUaX hlt ?_))
  (refine hK _ ?_;clear hK K)
  (refine W_ct rfl ?_)
  refine W_skip ?_
  simp only [thenW]
  refine W_seq ?_
  refine W_block ?_
  refine W_regR fun K hK=>?_
  (refine sUaX (And.intro hfi (And.intro hlt hli)) ?_;try exact True.intro)
  (repeat refine aI ?_)
  refine hK _ ?_
  clear hK K
  simp only [blockW,thenW]
  ((refine W_regV ?_);intro K hK;(refine sUa ?_))
  (refine hK _ ?_;clear hK K)
  simp only [blockW,thenW]
  refine ⟨⟨i+1,by omega⟩,Le_drop (by simp [leE]) (by simp [leH,hsi,i64s,hli,List.take_of_length_le]) rfl rfl,?_⟩
  dsimp only
  omega
 ·obtain rfl:i=F.length:=by omega
  have hli:=hln F.length (Nat.le_refl _)
  generalize E F.length=o at *
  refine W_seq ?_
  ((refine W_seqV ?_);intro K hK;(refine sUa ?_))
  (refine hK _ ?_;clear hK K)
  (refine W_cf rfl ?_)
  refine W_exit ?_
  simp only [thenW,blockW,if_true]
  rw [← hli]
  (refine W.le ?_ (Le_freeze 3 (rows:=i64s o) rfl (by simp) (.inl rfl));simp only [St.freeze,List.map_cons,List.map_nil,List.set,if_true,if_false,Nat.reduceEqDiff,reduceCtorEq,List.drop_zero,u32s_take,u32s_drop,froz_any,froz_und,froz_int,froz_bool,froz_str,froz_nils,froz_sl,froz_ia,froz_nilp,froz_nilif,froz_nilfn,froz_nilmp,froz_gl,froz_sref,froz_ptr,froz_agg,froz_tup,froz_fn,froz_ifc,frozs_nil,frozs_cons,froz_dead,froz_arr,froz_mp,froz_it,froz_md,froz_map,froz_iter])
  (repeat' (first | (refine W_seqV fun K hK=>?_;(try (refine sUa ?_));refine hK _ ?_;clear hK K) | (refine W_ret ?_;(refine qG ?_;try exact True.intro))))
theorem r7knows_ok (n:Int) (t:TR) (f:List (Int × RR)) {B:Nat} (hf:PF f B) (hB:B≤8589934592):Pure Tryz.prog 70 [cT n t,cF f] (· = .bool (knownB n (normF (vals f)))):=by
 have a1:=r6vars_ok f hf hB
 have a2:=r7is_ok n t
 have hl:(keys (normF (vals f))).length<1099511627776:=by
  have:=len_norm (vals f)
  rw [vals_length] at this
  have:=hf.len
  rw [keys_len]
  omega
 rw [← known_keys]
 generalize keys (normF (vals f))=V at *
 have hst:∀ i,i<V.length→V.all (inR n)=true→inR n (V.getD i 0)=true:=fun i hi h=>by
  rw [List.all_eq_true] at h
  exact h _ (by simp [List.getD_eq_getElem?_getD,hi])
 have hno:∀ i,i<V.length→inR n (V.getD i 0)=false→V.all (inR n)=false:=fun i hi h=>by
  rw [Bool.eq_false_iff]
  intro h'
  rw [hst i hi h'] at h
  cases h
 have hall:(∀ i,i<V.length→inR n (V.getD i 0)=true)→V.all (inR n)=true:=fun h=>by
  rw [List.all_eq_true]
  intro x hx
  obtain ⟨i,hi,he⟩:=List.getElem_of_mem hx
  have:=h i hi
  rwa [show V.getD i 0=x by simp [List.getD_eq_getElem?_getD,hi,he]] at this
 generalize V.all (inR n)=R at *
 simp only [cF,cT] at *
 (refine pureW Tryz.func70 rfl (rs:=[Go.ResultVar.tmp 4]) rfl (n:=22) rfl ?_;simp only [List.length_cons,List.length_nil,List.replicate,List.cons_append,List.nil_append])
 (refine aUa ?_)
 ((refine W_seqV ?_);intro K hK;(refine sUa ?_))
 (refine ⟨by kernel_rfl,_,.pure rfl (a1),?_⟩;(try (refine sUa ?_)))
 (refine hK _ ?_;clear hK K)
 (refine aUa ?_)
 refine W_seq ?_
 ((refine W_seqV ?_);intro K hK;(refine sUa ?_))
 (refine hK _ ?_;clear hK K)
 refine W_block (W_loop (fun s:{i:Nat // i≤V.length∧∀ j,j<i→inR n (V.getD j 0)=true} =>
   ⟨[.any,.any,.ptr 2 0 0,.any,.any,.sl (i64s V),.int .i64 s.1,.any,.any,.any,.any,.any,.any,.any,.any,.any,.any,.any,.any,.any,.any,.any],[.dead,.dead,.arr 24 2 false [[.int .i64 n,.sl (tab rowT t)]],.dead,.dead,.dead,.dead,.dead,.dead,.dead,.dead,.dead,.dead,.dead,.dead,.dead,.dead,.dead,.dead,.dead,.dead,.dead]⟩) (fun s=>V.length-s.1)
   ⟨0,by omega,by omega⟩ (Le_drop (by simp [leE]) (by simp [leH]) rfl rfl) fun s=>?_)
 obtain ⟨i,hi,hpre⟩:=s
 dsimp only
 by_cases hlt:i<V.length
 ·have hno:=hno i hlt
  have hpr:inR n (V.getD i 0)=true→∀ j,j<i+1→inR n (V.getD j 0)=true:=fun h j hj=>by
   by_cases hji:j=i
   ·subst hji;exact h
   ·exact hpre j (by omega)
  generalize hv:V.getD i 0=v at *
  have a2v:=a2 v
  refine W_seq ?_
  ((refine W_seqV ?_);intro K hK;(refine sUaX hlt ?_))
  (refine hK _ ?_;clear hK K)
  (refine W_ct rfl ?_)
  refine W_skip ?_
  simp only [thenW]
  refine W_seq ?_
  refine W_block ?_
  generalize inR n v=ib at *
  cases ib
  ·rw [hno rfl]
   ((refine W_seqD mixed [] (by kernel_rfl) ?_);intro K hK;(refine sUaX (And.intro hv hlt) ?_))
   (refine ⟨by kernel_rfl,_,.pure rfl (a2v),?_⟩;(try (refine sUa ?_)))
   (refine hK _ ?_;clear hK K)
   (refine W_ct rfl ?_)
   (refine aUa ?_)
   refine W_ret ?_
   (refine qG ?_;try exact True.intro);try (refine sUaV ?_;try exact True.intro)
  ·((refine W_seqD mixed [] (by kernel_rfl) ?_);intro K hK;(refine sUaX (And.intro hv hlt) ?_))
   (refine ⟨by kernel_rfl,_,.pure rfl (a2v),?_⟩;(try (refine sUa ?_)))
   (refine hK _ ?_;clear hK K)
   (refine W_cf rfl ?_)
   refine W_skip ?_
   simp only [thenW,blockW]
   ((refine W_regV ?_);intro K hK;(refine sUa ?_))
   (refine hK _ ?_;clear hK K)
   simp only [blockW,thenW]
   refine ⟨⟨i+1,by omega,hpr rfl⟩,Le_drop (by simp [leE]) (by simp [leH]) rfl rfl,?_⟩
   dsimp only
   omega
 ·obtain rfl:i=V.length:=by omega
  rw [hall hpre]
  refine W_seq ?_
  ((refine W_seqV ?_);intro K hK;(refine sUa ?_))
  (refine hK _ ?_;clear hK K)
  (refine W_cf rfl ?_)
  refine W_exit ?_
  simp only [thenW,blockW,if_true]
  (refine aUa ?_)
  refine W_ret ?_
  (refine qG ?_;try exact True.intro);try (refine sUaV ?_;try exact True.intro)
def othK (K:List Int):Nat→List Int
 | 0=>[]
 | k+1=>if (k:Int)∈K then othK K k else othK K k++[(k:Int)]
def othV (n:Int) (t:TR):AV:=if goodB n (nrmT t) then .tup [.sl (i64s (othK (keys (nrmT t)) n.toNat)),.int .i64 0] else .tup [.sl [],.int .i64 70]
def colF (M:TM) (v:Int) (l:List Int):List Int:=l.filter fun b=>decide (coef ((lookM M b).getD []) v≠0)
def colV (n:Int) (t:TR) (v:Int):AV:=if goodB n (nrmT t) then if v<0∨n≤v then .tup [.sl [],.int .i64 61] else if v∈keys (nrmT t) then .tup [.sl [],.int .i64 71] else
 .tup [.sl (i64s (colF (nrmT t) v (sortK (keys (nrmT t))))),.int .i64 0] else .tup [.sl [],.int .i64 70]
theorem sTj {G G':Prop} (h:G') (e:G=G':=by conv=>lhs;simp (disch:=omega) only [rowsOf,cNat,cN,St.ret,St.seth,Eff.app,Eff.wi,sepL,guardOf,St.known,objOf,List.set,sliceW,litW,copyW,lenOf,bnd,mxOk,ofCells,TI.isAgg,cellsOf,storable,AV.one,dead,laid,overlay,reduceCtorEq,Int.reduceLE,Int.reduceLT,Int.reduceSub,Int.reduceAdd,Nat.reduceMul,Int.reduceToNat,Nat.reducePow,Int.reduceNeg,Nat.reduceAdd,Nat.reduceLT,Nat.reduceLeDiff,sA,sB,Nat.reduceEqDiff,cQ,rowQ,rowU,rowT,rowM,i64s_getD,i64s_length,tab_length,tab_drop,tab_take,tab_append,tab_nil,rowT_all,rowT_one,rowT_pure,rowU_all,rowU_one,rowU_pure,rowQ_all,rowQ_one,rowQ_pure,List.take_length,List.length_append,findA_tab,range_snoc,pure_sl,sT]):G:=e.mpr h
theorem sTjX {G G' P:Prop} (p:P) (h:G') (e:P→G=G':=by intro p;conv=>lhs;simp (disch:=omega) only [rowsOf,cNat,cN,St.ret,St.seth,Eff.app,Eff.wi,sepL,guardOf,St.known,objOf,List.set,sliceW,litW,copyW,lenOf,bnd,mxOk,ofCells,TI.isAgg,cellsOf,storable,AV.one,dead,laid,overlay,reduceCtorEq,Int.reduceLE,Int.reduceLT,Int.reduceSub,Int.reduceAdd,Nat.reduceMul,Int.reduceToNat,Nat.reducePow,Int.reduceNeg,Nat.reduceAdd,Nat.reduceLT,Nat.reduceLeDiff,sA,sB,Nat.reduceEqDiff,cQ,rowQ,rowU,rowT,rowM,i64s_getD,i64s_length,tab_length,tab_drop,tab_take,tab_append,tab_nil,rowT_all,rowT_one,rowT_pure,rowU_all,rowU_one,rowU_pure,rowQ_all,rowQ_one,rowQ_pure,List.take_length,List.length_append,findA_tab,range_snoc,pure_sl,sT,p]):G:=(e p).mpr h
theorem sTjV {G G':Prop} (h:G') (e:G=G':=by conv=>lhs;simp (disch:=omega) only [rowsOf,cNat,cN,St.ret,St.seth,Eff.app,Eff.wi,sepL,guardOf,St.known,objOf,List.set,sliceW,litW,copyW,lenOf,bnd,mxOk,ofCells,TI.isAgg,cellsOf,storable,AV.one,dead,laid,overlay,reduceCtorEq,Int.reduceLE,Int.reduceLT,Int.reduceSub,Int.reduceAdd,Nat.reduceMul,Int.reduceToNat,Nat.reducePow,Int.reduceNeg,Nat.reduceAdd,Nat.reduceLT,Nat.reduceLeDiff,sA,sB,Nat.reduceEqDiff,cQ,rowQ,rowU,rowT,rowM,i64s_getD,i64s_length,tab_length,tab_drop,tab_take,tab_append,tab_nil,rowT_all,rowT_one,rowT_pure,rowU_all,rowU_one,rowU_pure,rowQ_all,rowQ_one,rowQ_pure,List.take_length,List.length_append,findA_tab,range_snoc,pure_sl,sT,view_sref,viewRef,view_agg,views_cons,views_nil,view_bool,view_int,view_sl,view_nils,view_str,view_tup,view_nilif]):G:=e.mpr h
theorem aTj {G G':Prop} (h:G') (f:Wr G'→G:=by intro h;(repeat (first|(refine W_seqV fun K hK=>?_;(try (refine sTj ?_;try exact True.intro));(repeat refine aI ?_);refine hK _ ?_;clear hK K)|(refine W_seqR fun K hK=>?_;(try (refine sTj ?_;try exact True.intro));(repeat refine aI ?_);refine hK _ ?_;clear hK K)|(refine W_seqD mixed [] (by kernel_rfl) fun K hK=>?_;(try (refine sTj ?_;try exact True.intro));(repeat refine aI ?_);refine hK _ ?_;clear hK K)));exact h.out):G:=f ⟨h⟩
theorem celly_u32s:∀ l:List Nat,AV.cellyR (u32s l)=true
 | []=>rfl
 | x::l=>by
  show (!([AV.int .u32 (x:Int)]).isEmpty&&AV.cellys [AV.int .u32 (x:Int)]&&AV.cellyR (u32s l))=true
  rw [celly_u32s l]
  rfl
theorem celly_rowQ:∀ l:List (Int × Rat),AV.cellyR (tab rowQ l)=true
 | []=>rfl
 | p::l=>by
  show (!(rowQ p).isEmpty&&AV.cellys (rowQ p)&&AV.cellyR (tab rowQ l))=true
  rw [celly_rowQ l]
  simp only [rowQ,AV.cellys,AV.celly,celly_u32s,List.isEmpty_cons]
  rfl
theorem celly_L (l:List (Int × Rat)):(AV.sl (tab rowQ l)).celly=true:=celly_rowQ l
structure FormOk (f:List (Int × RR)):Prop where
 ok:∀ p∈f,p.2.ok
 sz:nbs (vals f)≤68157440
theorem FormOk.fok {f:List (Int × RR)} (h:FormOk f):FOk f (nbs (vals f)):=⟨h.ok,Sz.of _⟩
theorem TG.expr {t:TR} (h:TG t) {n:Int} (hg:goodB n (nrmT t)=true) {f:List (Int × RR)} (hk:knownB n (normF (vals f))=true) (hx:ExOk (nrmT t) f) :
  Pure Tryz.prog 67 [.md t.length (List.range t.length) (tab rowU (nrmT t)),cF f] (·=cL (exprT (nrmT t) (vals f))) :=
 texpr_ok _ f _ _ (gt_iff.1 hg) h.mok.nf hk hx (by rw [nrmT_len];exact range_births.1) range_births.2.1 range_births.2.2
theorem FormOk.mok {f:List (Int × RR)} (h:FormOk f):FOk f 536870912:=⟨h.ok,h.fok.sz.mono (by have:=h.sz;omega)⟩
theorem TOk.ex {t:TR} (h:TOk t) {n:Int} {f:List (Int × RR)} (hf:FormOk f) (hg:goodB n (nrmT t)=true):ExOk (nrmT t) f :=
 ExOk.of (gt_iff.1 hg).nodup hf.fok hf.sz h.tb
theorem FormOk.known {f:List (Int × RR)} (h:FOk f 536870912) (n:Int):Pure Tryz.prog 66 [cF f,.int .i64 n] (· = .bool (knownB n (normF (vals f)))) :=
 tknown_ok f n h (by omega)
def exprV (n:Int) (t:TR) (f:List (Int × RR)):AV:=if goodB n (nrmT t) then if knownB n (normF (vals f)) then .tup [cL (exprT (nrmT t) (vals f)),.int .i64 0] else .tup [.sl [],.int .i64 61] else .tup [.sl [],.int .i64 70]
def defV (n:Int) (t:TR) (f:List (Int × RR)):AV:=if goodB n (nrmT t) then if knownB n (normF (vals f)) then if n=65536 then .tup [cU 0 [],.int .i64 0,.int .i64 2] else .tup [cU (n+1) (sortM (nrmT t++[(n,exprT (nrmT t) (vals f))])),.int .i64 n,.int .i64 0]
 else .tup [cU 0 [],.int .i64 0,.int .i64 61] else .tup [cU 0 [],.int .i64 0,.int .i64 70]
theorem tdefine_g (n:Int) (t:TR) (f:List (Int × RR)) (hT:TG t) (hf:FOk f 536870912) (hx:goodB n (nrmT t)=true→knownB n (normF (vals f))=true→ExOk (nrmT t) f):Pure Tryz.prog 21 [cT n t,cF f] (·=defV n t f):=by
 have a0:=tload_new n t (fun r hr=>hT.form hr) (by omega) (by have:=hT.len;omega)
 have a2:=FormOk.known hf n
 have a3:=fun hg hk=>hT.expr (n:=n) hg hk (hx hg hk)
 have hM:=hT.mok
 have hml:=nrmT_len t
 have hsz:goodB n (nrmT t)=true→knownB n (normF (vals f))=true→MOk (nrmT t++[(n,exprT (nrmT t) (vals f))]) 1073741824:=fun hg hk=>by
  have hp:=exprP_preG (gt_iff.1 hg) hk (hx hg hk) (keys (normF (vals f))).length
  rw [List.take_length] at hp
  refine ⟨fun r hr=>?_,fun r hr=>?_,by have:=hM.len;have:=hT.len;rw [List.length_append,hml];simp;omega⟩
  ·rcases List.mem_append.1 hr with hr | hr
   ·exact hM.nf r hr
   ·simp at hr;subst hr;exact hp.1
  ·rcases List.mem_append.1 hr with hr | hr
   ·exact (hM.sz r hr).mono (by omega)
   ·simp at hr;subst hr;exact hp.2.mono (by omega)
 have a4:=fun hg hk=>ttold_ok (nrmT t++[(n,exprT (nrmT t) (vals f))]) (n+1) (t.length+1) (List.range (t.length+1)) (hsz hg hk) (by omega) (by simp [hml]) range_births.2.1 range_births.2.2
 have hni:goodB n (nrmT t)=true→n∉keys (nrmT t):=fun hg hm=>by have:=(gt_iff.1 hg).range n hm;omega
 have hgn:goodB n (nrmT t)=true→0≤n∧n≤65536:=fun h=>⟨(gt_iff.1 h).lo,(gt_iff.1 h).hi⟩
 unfold loadR at a0
 unfold defV
 unfold cT cU at *
 have hcl:=celly_L (exprT (nrmT t) (vals f))
 generalize exprT (nrmT t) (vals f)=R at *
 generalize goodB n (nrmT t)=gb at *
 generalize knownB n (normF (vals f))=kb at *
 generalize nrmT t=M at *
 have hz:tab rowU []=[]:=rfl
 rw [hz]
 simp only [cF,cL] at *
 clear hsz
 cases gb
 ·simp only [Bool.false_eq_true,if_false] at a0 ⊢
  (refine pureW Tryz.func21 rfl (rs:=[Go.ResultVar.cell 4 24,Go.ResultVar.tmp 5,Go.ResultVar.tmp 6]) rfl (n:=43) rfl ?_;simp only [List.length_cons,List.length_nil,List.replicate,List.cons_append,List.nil_append])
  (refine aTj ?_)
  ((refine W_seqR ?_);intro K hK;(refine sTj ?_))
  refine ⟨by kernel_rfl,call_newMB 11 rfl rfl a0 (fun _=>?_) (fun c bs rows h=>by cases h)⟩
  (refine sTj ?_;try exact True.intro)
  (refine hK _ ?_;clear hK K)
  (repeat' (first | (exfalso;simp at h;done) | refine W_block ?_ | (refine W_seqV fun K hK=>?_;(try (refine sTj ?_));refine hK _ ?_;clear hK K) | (refine W_ret ?_;(refine qG ?_)) | (refine W_cond rfl (fun h=>?_) (fun h=>?_) <;> (try simp only [cond_true,cond_false,ne_eq,cB] at h)) | refine W_seq ?_))
  (try (refine sTjV ?_;try exact True.intro))
 simp only [if_true] at a0 ⊢
 obtain ⟨hn0,hn1⟩:=hgn rfl
 have hni:=hni rfl
 have hid:idxM M n=none:=by
  cases h:idxM M n with
  | none=>rfl
  | some j=>exact absurd (idx_some h).2.2.2 hni
 cases kb
 ·simp only [Bool.false_eq_true,if_false]
  (refine pureW Tryz.func21 rfl (rs:=[Go.ResultVar.cell 4 24,Go.ResultVar.tmp 5,Go.ResultVar.tmp 6]) rfl (n:=43) rfl ?_;simp only [List.length_cons,List.length_nil,List.replicate,List.cons_append,List.nil_append])
  (refine aTj ?_)
  ((refine W_seqR ?_);intro K hK;(refine sTj ?_))
  refine ⟨by kernel_rfl,call_newMB 11 rfl rfl a0 (fun h=>by cases h) (fun c bs rows h=>?_)⟩
  cases h
  (refine sTj ?_;try exact True.intro)
  (refine hK _ ?_;clear hK K)
  (repeat' (first | (exfalso;simp at h;done) | refine W_block ?_ | (refine W_seqV fun K hK=>?_;(try (refine sTj ?_));refine hK _ ?_;clear hK K) | (refine W_cond rfl (fun h=>?_) (fun h=>?_) <;> (try simp only [cond_true,cond_false,ne_eq,cB] at h)) | refine W_seq ?_))
  ((refine W_regV ?_);intro K hK;(refine sTj ?_))
  (refine ⟨by kernel_rfl,_,.pure rfl (a2),?_⟩;(try (refine sTj ?_)))
  (refine hK _ ?_;clear hK K)
  (repeat' (first | (exfalso;simp at h;done) | (refine W_seqV fun K hK=>?_;(try (refine sTj ?_));refine hK _ ?_;clear hK K) | (refine W_ret ?_;(refine qG ?_)) | (refine W_cond rfl (fun h=>?_) (fun h=>?_) <;> (try simp only [cond_true,cond_false,ne_eq,cB] at h))))
  (try (refine sTjV ?_;try exact True.intro))
 simp only [if_true]
 have a3':=a3 rfl rfl
 have a4':=a4 rfl rfl
 by_cases hn:n=65536
 ·rw [if_pos hn]
  (refine pureW Tryz.func21 rfl (rs:=[Go.ResultVar.cell 4 24,Go.ResultVar.tmp 5,Go.ResultVar.tmp 6]) rfl (n:=43) rfl ?_;simp only [List.length_cons,List.length_nil,List.replicate,List.cons_append,List.nil_append])
  (refine aTj ?_)
  ((refine W_seqR ?_);intro K hK;(refine sTj ?_))
  refine ⟨by kernel_rfl,call_newMB 11 rfl rfl a0 (fun h=>by cases h) (fun c bs rows h=>?_)⟩
  cases h
  (refine sTj ?_;try exact True.intro)
  (refine hK _ ?_;clear hK K)
  (repeat' (first | (exfalso;simp at h;done) | refine W_block ?_ | (refine W_seqV fun K hK=>?_;(try (refine sTj ?_));refine hK _ ?_;clear hK K) | (refine W_cond rfl (fun h=>?_) (fun h=>?_) <;> (try simp only [cond_true,cond_false,ne_eq,cB] at h)) | refine W_seq ?_))
  ((refine W_regV ?_);intro K hK;(refine sTj ?_))
  (refine ⟨by kernel_rfl,_,.pure rfl (a2),?_⟩;(try (refine sTj ?_)))
  (refine hK _ ?_;clear hK K)
  (repeat' (first | (exfalso;simp at h;done) | (refine W_seqV fun K hK=>?_;(try (refine sTj ?_));refine hK _ ?_;clear hK K) | refine W_skip ?_ | (refine W_ret ?_;(refine qG ?_)) | (refine W_cond rfl (fun h=>?_) (fun h=>?_) <;> (try simp only [cond_true,cond_false,ne_eq,cB] at h)) | refine W_seq ?_))
  ·(try (refine sTjV ?_;try exact True.intro))
  ·exact absurd hn h
 ·rw [if_neg hn]
  have hw:IntKind.wrap .i64 (n+1)=n+1:=wrap_i64 (by omega) (by omega)
  (refine pureW Tryz.func21 rfl (rs:=[Go.ResultVar.cell 4 24,Go.ResultVar.tmp 5,Go.ResultVar.tmp 6]) rfl (n:=43) rfl ?_;simp only [List.length_cons,List.length_nil,List.replicate,List.cons_append,List.nil_append])
  (refine aTj ?_)
  ((refine W_seqR ?_);intro K hK;(refine sTj ?_))
  refine ⟨by kernel_rfl,call_newMB 11 rfl rfl a0 (fun h=>by cases h) (fun c bs rows h=>?_)⟩
  cases h
  (refine sTj ?_;try exact True.intro)
  (refine hK _ ?_;clear hK K)
  (repeat' (first | (exfalso;simp at h;done) | refine W_block ?_ | (refine W_seqV fun K hK=>?_;(try (refine sTj ?_));refine hK _ ?_;clear hK K) | (refine W_cond rfl (fun h=>?_) (fun h=>?_) <;> (try simp only [cond_true,cond_false,ne_eq,cB] at h)) | refine W_seq ?_))
  ((refine W_regV ?_);intro K hK;(refine sTj ?_))
  (refine ⟨by kernel_rfl,_,.pure rfl (a2),?_⟩;(try (refine sTj ?_)))
  (refine hK _ ?_;clear hK K)
  (repeat' (first | (exfalso;simp at h;done) | (refine W_seqV fun K hK=>?_;(try (refine sTj ?_));(repeat refine aI ?_);refine hK _ ?_;clear hK K) | refine W_skip ?_ | (refine W_ret ?_;(refine qG ?_)) | (refine W_cond rfl (fun h=>?_) (fun h=>?_) <;> (try simp only [cond_true,cond_false,ne_eq,cB] at h)) | refine W_seq ?_))
  ·exact absurd h hn
  ((refine W_regS mixed 6 [(1,0)] (by kernel_rfl) ?_);intro K hK;(refine sTjX hid ?_))
  (refine ⟨by kernel_rfl,_,.mapv rfl rfl rfl rfl (hcl) (a3'),?_⟩;(try (refine sTj ?_));(repeat refine aI ?_))
  (refine hK _ ?_;clear hK K)
  have hrw:tab rowU M++[[.int .i64 n,.sl (tab rowQ R)]]=tab rowU (M++[(n,R)]):=tab_snoc (enc:=rowU) M (n,R)
  rw [hrw]
  refine W.le ?_ (Le_freezeM 11 7 (e':=[.any,.any,.ptr 2 0 0,.any,.ptr 4 0 0,.any,.any,.any,.any,.any,.any,.any,.any,.any,.any,.any,.any,.any,.any,.any,.any,.any,.any,.any,.any,.any,.any,.any,.any,.any,.any,.any,.any,.any,.any,.any,.any,.any,.any,.any,.any,.any,.any]) (hp':=[.dead,.dead,.arr 24 2 false [[.int .i64 n,.sl (tab rowT t)]],.dead,.arr 24 2 false [[.int .i64 0,.nils]],.dead,.dead,.dead,.dead,.dead,.dead,.dead,.dead,.dead,.dead,.dead,.dead,.dead,.dead,.dead,.dead,.dead,.dead,.dead,.dead,.dead,.dead,.dead,.dead,.dead,.dead,.dead,.dead,.dead,.dead,.dead,.dead,.dead,.dead,.dead,.dead,.dead,.dead]) rfl rfl (by simp) (by simp [leE]) (by simp [leH]) rfl rfl rfl)
  simp only [List.set]
  ((refine W_seqD mixed [(6,7)] (by kernel_rfl) ?_);intro K hK;(refine sTjX hw ?_))
  (refine ⟨by kernel_rfl,_,.pure rfl (a4'),?_⟩;(try (refine sTj ?_));(repeat refine aI ?_))
  (refine hK _ ?_;clear hK K)
  refine W_ret ?_
  (refine qG ?_;try exact True.intro);try (refine sTjV ?_;try exact True.intro)
theorem tdefine_ok (n:Int) (t:TR) (f:List (Int × RR)) (hT:TOk t) (hf:FormOk f):Pure Tryz.prog 21 [cT n t,cF f] (·=defV n t f) :=
 tdefine_g n t f hT hf.mok fun hg _=>hT.ex hf hg
end Go.Proofs.YtjmpajgjaefcjaaGreat.Vm
/-
  Tableaus: a basic variable and another one change places.
-/
namespace Go.Proofs.YtjmpajgjaefcjaaGreat.Vm
open Go Go.RowKit
theorem sTk {G G' : Prop} (h : G') (e : G = G' := by conv => lhs; simp (disch := omega) only [rowsOf, cNat, cN, St.ret, St.seth, Eff.app, Eff.wi, sepL, guardOf, St.known, objOf, List.set, sliceW, litW, copyW, lenOf, bnd, mxOk, ofCells, TI.isAgg, cellsOf, storable, AV.one, dead, laid, overlay, reduceCtorEq, Int.reduceLE, Int.reduceLT, Int.reduceSub, Int.reduceAdd, Nat.reduceMul, Int.reduceToNat, Nat.reducePow, Int.reduceNeg, Nat.reduceAdd, Nat.reduceLT, Nat.reduceLeDiff, sA, sB, Nat.reduceEqDiff, cQ, rowQ, rowU, rowT, rowM, i64s_getD, i64s_length, tab_length, tab_drop, tab_take, tab_append, tab_nil, rowT_all, rowT_one, rowT_pure, rowU_all, rowU_one, rowU_pure, rowQ_all, rowQ_one, rowQ_pure, List.take_length, List.length_append, findA_tab, range_snoc, pure_sl, sT]) : G := e.mpr h
theorem sTkX {G G' P : Prop} (p : P) (h : G') (e : P → G = G' := by intro p; conv => lhs; simp (disch := omega) only [rowsOf, cNat, cN, St.ret, St.seth, Eff.app, Eff.wi, sepL, guardOf, St.known, objOf, List.set, sliceW, litW, copyW, lenOf, bnd, mxOk, ofCells, TI.isAgg, cellsOf, storable, AV.one, dead, laid, overlay, reduceCtorEq, Int.reduceLE, Int.reduceLT, Int.reduceSub, Int.reduceAdd, Nat.reduceMul, Int.reduceToNat, Nat.reducePow, Int.reduceNeg, Nat.reduceAdd, Nat.reduceLT, Nat.reduceLeDiff, sA, sB, Nat.reduceEqDiff, cQ, rowQ, rowU, rowT, rowM, i64s_getD, i64s_length, tab_length, tab_drop, tab_take, tab_append, tab_nil, rowT_all, rowT_one, rowT_pure, rowU_all, rowU_one, rowU_pure, rowQ_all, rowQ_one, rowQ_pure, List.take_length, List.length_append, findA_tab, range_snoc, pure_sl, sT, p]) : G := (e p).mpr h
theorem sTkV {G G' : Prop} (h : G') (e : G = G' := by conv => lhs; simp (disch := omega) only [rowsOf, cNat, cN, St.ret, St.seth, Eff.app, Eff.wi, sepL, guardOf, St.known, objOf, List.set, sliceW, litW, copyW, lenOf, bnd, mxOk, ofCells, TI.isAgg, cellsOf, storable, AV.one, dead, laid, overlay, reduceCtorEq, Int.reduceLE, Int.reduceLT, Int.reduceSub, Int.reduceAdd, Nat.reduceMul, Int.reduceToNat, Nat.reducePow, Int.reduceNeg, Nat.reduceAdd, Nat.reduceLT, Nat.reduceLeDiff, sA, sB, Nat.reduceEqDiff, cQ, rowQ, rowU, rowT, rowM, i64s_getD, i64s_length, tab_length, tab_drop, tab_take, tab_append, tab_nil, rowT_all, rowT_one, rowT_pure, rowU_all, rowU_one, rowU_pure, rowQ_all, rowQ_one, rowQ_pure, List.take_length, List.length_append, findA_tab, range_snoc, pure_sl, sT, view_sref, viewRef, view_agg, views_cons, views_nil, view_bool, view_int, view_sl, view_nils, view_str, view_tup, view_nilif]) : G := e.mpr h
theorem aTk {G G' : Prop} (h : G') (f : Wr G' → G := by intro h; (repeat (first | (refine W_seqV fun K hK => ?_; (try (refine sTk ?_; try exact True.intro)); (repeat refine aI ?_); refine hK _ ?_; clear hK K) | (refine W_seqR fun K hK => ?_; (try (refine sTk ?_; try exact True.intro)); (repeat refine aI ?_); refine hK _ ?_; clear hK K) | (refine W_seqD mixed [] (by kernel_rfl) fun K hK => ?_; (try (refine sTk ?_; try exact True.intro)); (repeat refine aI ?_); refine hK _ ?_; clear hK K))); exact h.out) : G := f ⟨h⟩

theorem lsolve_none (f : List (Int × RR)) (v : Int) {B : Nat} (hf : FOk f B) (hB : 4 * B < 4294967296) (h0 : coef (vals f) v = 0) :
    Pure Tryz.prog 94 [.agg (affM f zeroR), .int .i64 v] (· = .tup [.agg [.sl [], .bool false, .sl [], .sl []], .int .i64 61]) := by
  have b0 := lcoef_ok f v (hf.pf (by omega)) (by omega)
  have hnc : nb (coef (vals f) v) ≤ 1 + B := (hf.pf (by omega)).coef v
  have b1 := rinv_ok (qr (coef (vals f) v)) (qr_ok (by omega))
  rw [qr_v, if_pos h0] at b1
  generalize coef (vals f) v = c at *
  clear hnc h0
  simp only [affM, zeroR, RR.av, cF, cL, qr, noQ, show u32s [] = [] from rfl] at *
  simp only [cQ] at *
  (refine pureW Tryz.func94 rfl (rs := [Go.ResultVar.cell 4 121, Go.ResultVar.tmp 5]) rfl (n := 30) rfl ?_; simp only [List.length_cons, List.length_nil, List.replicate, List.cons_append, List.nil_append])
  (refine aTk ?_)
  ((refine W_seqV ?_); intro K hK; (refine sTk ?_))
  (refine ⟨by kernel_rfl, _, .pure rfl (b0), ?_⟩; (try (refine sTk ?_)))
  (refine ⟨by kernel_rfl, _, .pure rfl (b1), ?_⟩; (try (refine sTk ?_)))
  (refine hK _ ?_; clear hK K)
  (repeat' (first | (exfalso; simp at h; done) | (refine W_seqV fun K hK => ?_; (try (refine sTk ?_)); refine hK _ ?_; clear hK K) | (refine W_ret ?_; (refine qG ?_)) | (refine W_cond rfl (fun h => ?_) (fun h => ?_) <;> (try simp only [cond_true, cond_false, ne_eq, cB] at h)) | refine W_seq ?_))
  (try (refine sTkV ?_; try exact True.intro))
/-- The rows of a map whose rows born as those seen have had g put in. -/
def updS (bs sn : List Nat) (N : TM) (o : Int) (g : List (Int × Rat)) : TM := (List.range N.length).map fun j => if bs.getD j 0 ∈ sn then ((N.getD j default).1, putF (N.getD j default).2 o g) else N.getD j default
theorem updS_len (bs sn : List Nat) (N : TM) (o : Int) (g : List (Int × Rat)) : (updS bs sn N o g).length = N.length := by simp [updS]
theorem updS_getD {bs sn : List Nat} {N : TM} {o : Int} {g : List (Int × Rat)} {j : Nat} (h : j < N.length) : (updS bs sn N o g).getD j default = if bs.getD j 0 ∈ sn then ((N.getD j default).1, putF (N.getD j default).2 o g) else N.getD j default := by
  simp [updS, List.getD_eq_getElem?_getD, h]
theorem updS_nil (bs : List Nat) (N : TM) (o : Int) (g : List (Int × Rat)) : updS bs [] N o g = N := by
  refine List.ext_getElem (updS_len _ _ _ _ _) fun j h1 h2 => ?_
  have := updS_getD (bs := bs) (sn := []) (o := o) (g := g) h2
  simp [List.getD_eq_getElem?_getD, h1, h2] at this
  exact this
theorem updS_keys (bs sn : List Nat) (N : TM) (o : Int) (g : List (Int × Rat)) : keys (updS bs sn N o g) = keys N := by
  refine List.ext_getElem (by simp [keys, updS]) fun j h1 h2 => ?_
  have hj : j < N.length := by simpa [keys] using h2
  have := updS_getD (bs := bs) (sn := sn) (o := o) (g := g) hj
  have hj' : j < (updS bs sn N o g).length := by rw [updS_len]; exact hj
  simp only [keys, List.getElem_map]
  rw [List.getD_eq_getElem?_getD, List.getElem?_eq_getElem hj', Option.getD_some] at this
  rw [this]
  split <;> simp [List.getD_eq_getElem?_getD, hj]
theorem updS_all {bs sn : List Nat} {N : TM} {o : Int} {g : List (Int × Rat)} (hl : bs.length = N.length) (h : ∀ x ∈ bs, x ∈ sn) : updS bs sn N o g = N.map fun r => (r.1, putF r.2 o g) := by
  refine List.ext_getElem (by simp [updS]) fun j h1 h2 => ?_
  have hj : j < N.length := by simpa using h2
  have := updS_getD (bs := bs) (sn := sn) (o := o) (g := g) hj
  rw [if_pos (h _ (by simp [List.getD_eq_getElem?_getD, show j < bs.length by omega]))] at this
  rw [List.getD_eq_getElem?_getD, List.getElem?_eq_getElem h1, Option.getD_some] at this
  rw [this]
  simp [List.getD_eq_getElem?_getD, hj]
theorem updS_set {bs sn : List Nat} (hn : bs.Nodup) {N : TM} (hl : bs.length = N.length) {o : Int} {g : List (Int × Rat)} {j x : Nat} (hj : bs[j]? = some x) (hjl : j < N.length) (hx : x ∉ sn) :
    (updS bs sn N o g).set j ((N.getD j default).1, putF (N.getD j default).2 o g) = updS bs (sn ++ [x]) N o g ∧ (updS bs sn N o g).getD j default = N.getD j default := by
  obtain ⟨hb, hbx⟩ := List.getElem?_eq_some_iff.1 hj
  have hjx : bs.getD j 0 = x := by simp [List.getD_eq_getElem?_getD, hj]
  refine ⟨?_, by rw [updS_getD hjl, if_neg (by rw [hjx]; exact hx)]⟩
  refine List.ext_getElem (by simp [updS]) fun i h1 h2 => ?_
  have hil : i < N.length := by rw [updS_len] at h2; exact h2
  have e2 := updS_getD (bs := bs) (sn := sn ++ [x]) (o := o) (g := g) hil
  rw [List.getD_eq_getElem?_getD, List.getElem?_eq_getElem h2, Option.getD_some] at e2
  rw [e2, List.getElem_set]
  by_cases hij : j = i
  · subst hij
    rw [if_pos rfl, if_pos (by rw [hjx]; simp)]
  · rw [if_neg hij]
    have e1 := updS_getD (bs := bs) (sn := sn) (o := o) (g := g) hil
    have h1' : i < (updS bs sn N o g).length := by rw [updS_len]; exact hil
    rw [List.getD_eq_getElem?_getD, List.getElem?_eq_getElem h1', Option.getD_some] at e1
    rw [e1]
    have hne : i < bs.length → bs.getD i 0 ≠ x := fun hi he => by
      have : bs[i] = bs[j] := by
        rw [hbx]
        simpa [List.getD_eq_getElem?_getD, hi] using he
      exact hij ((List.getElem_inj hn).1 this).symm
    have := hne (by omega)
    simp only [List.mem_append, List.mem_singleton, this, or_false]
theorem idx_nodup {M : TM} (hn : (keys M).Nodup) {j : Nat} (hj : j < M.length) : idxM M (M.getD j default).1 = some j := by
  have hk : (M.getD j default).1 ∈ keys M := List.mem_map.2 ⟨_, getD_mem hj, rfl⟩
  obtain ⟨i, h1, h2, h3, _⟩ := look_idx hk
  rw [h1]
  congr 1
  have e1 : (keys M)[i]'(by rw [keys_len]; exact h2) = (M.getD i default).1 := by simp [keys, List.getD_eq_getElem?_getD, h2]
  have e2 : (keys M)[j]'(by rw [keys_len]; exact hj) = (M.getD j default).1 := by simp [keys, List.getD_eq_getElem?_getD, hj]
  exact (List.getElem_inj hn).1 (e1.trans (h3.trans e2.symm))
theorem tab_erase {α : Type} {enc : α → List AV} : ∀ (l : List α) (k : Nat), (tab enc l).eraseIdx k = tab enc (l.eraseIdx k)
  | [], k => by cases k <;> rfl
  | x :: l, 0 => rfl
  | x :: l, k + 1 => by
    have := tab_erase (enc := enc) l k
    unfold tab at *
    simp [this]
theorem unit_fok (b : Int) : FOk (rf [(b, (1 : Rat))]) 2 := FOk.rf ⟨fun v => by simp only [nbv]; split <;> simp [nb_one], by simp⟩ (by omega)
theorem Sz.whole {f : List (Int × Rat)} {B : Nat} (h : Sz f B) (b : Int) : Sz (wholeF b f) (B + 2) := Sz.sub h ⟨fun v => by simp only [nbv]; split <;> simp [nb_one], by simp⟩
theorem Sz.solv {f : List (Int × Rat)} {B : Nat} (h : Sz f B) (b o : Int) : Sz (solvF b f o) ((1 + (B + 2)) + (B + 2)) := by
  unfold solvF
  have h1 := delF_sz (h.whole b) o
  have h2 := h1.scale ((whole_nf b f).del o) (-(coef (wholeF b f) o)⁻¹)
  have h3 := nb_coef (wholeF b f) o
  have h4 := (h.whole b).b o
  rw [nb_neg, nb_inv] at h2
  exact h2.mono (by omega)
def pivV (n : Int) (t : TR) (b o : Int) : AV := if goodB n (nrmT t) then if b < 0 ∨ n ≤ b ∨ o < 0 ∨ n ≤ o then .tup [cU 0 [], .int .i64 61] else match idxM (nrmT t) b with
    | none => .tup [cU 0 [], .int .i64 71]
    | some k => if o ∈ keys (nrmT t) then .tup [cU 0 [], .int .i64 71] else if coef (wholeF b ((nrmT t).getD k default).2) o = 0 then .tup [cU 0 [], .int .i64 72] else .tup [cU n (sortM (pivP (nrmT t) k o (solvF b ((nrmT t).getD k default).2 o))), .int .i64 0]
  else .tup [cU 0 [], .int .i64 70]
set_option maxHeartbeats 8000000 in
theorem tpivot_ok (n : Int) (t : TR) (b o : Int) (hT : TG t) : Pure Tryz.prog 48 [cT n t, .int .i64 b, .int .i64 o] (· = pivV n t b o) := by
  have a0 := tload_new n t (fun r hr => hT.form hr) (by omega) (by have := hT.len; omega)
  have hM := hT.mok
  have hml := nrmT_len t
  have hnd : goodB n (nrmT t) = true → (keys (nrmT t)).Nodup := fun h => (gt_iff.1 h).nodup
  unfold loadR at a0
  unfold pivV
  unfold cT cU at *
  generalize goodB n (nrmT t) = gb at *
  generalize nrmT t = M at *
  have hz : tab rowU [] = [] := rfl
  rw [hz]
  cases gb
  · simp only [Bool.false_eq_true, if_false] at a0 ⊢
    (refine pureW Tryz.func48 rfl (rs := [Go.ResultVar.cell 6 24, Go.ResultVar.tmp 7]) rfl (n := 106) rfl ?_; simp only [List.length_cons, List.length_nil, List.replicate, List.cons_append, List.nil_append])
    (refine aTk ?_)
    ((refine W_seqR ?_); intro K hK; (refine sTk ?_))
    refine ⟨by kernel_rfl, call_newMB 20 rfl rfl a0 (fun _ => ?_) (fun c bs rows h => by cases h)⟩
    (refine sTk ?_; try exact True.intro)
    (refine hK _ ?_; clear hK K)
    (repeat' (first | (exfalso; simp at h; done) | refine W_block ?_ | (refine W_seqV fun K hK => ?_; (try (refine sTk ?_)); refine hK _ ?_; clear hK K) | (refine W_ret ?_; (refine qG ?_)) | (refine W_cond rfl (fun h => ?_) (fun h => ?_) <;> (try simp only [cond_true, cond_false, ne_eq, cB] at h)) | refine W_seq ?_))
    (try (refine sTkV ?_; try exact True.intro))
  simp only [if_true] at a0 ⊢
  have hnd := hnd rfl
  by_cases hv : b < 0 ∨ n ≤ b ∨ o < 0 ∨ n ≤ o
  · rw [if_pos hv]
    have hcond : ∀ {P : Prop}, (b < 0 → P) → (¬ b < 0 → n ≤ b → P) → (¬ b < 0 → ¬ n ≤ b → o < 0 → P) → (¬ b < 0 → ¬ n ≤ b → ¬ o < 0 → n ≤ o → P) → P := fun h1 h2 h3 h4 => by
      by_cases c1 : b < 0
      · exact h1 c1
      · by_cases c2 : n ≤ b
        · exact h2 c1 c2
        · by_cases c3 : o < 0
          · exact h3 c1 c2 c3
          · exact h4 c1 c2 c3 (by omega)
    (refine pureW Tryz.func48 rfl (rs := [Go.ResultVar.cell 6 24, Go.ResultVar.tmp 7]) rfl (n := 106) rfl ?_; simp only [List.length_cons, List.length_nil, List.replicate, List.cons_append, List.nil_append])
    (refine aTk ?_)
    ((refine W_seqR ?_); intro K hK; (refine sTk ?_))
    refine ⟨by kernel_rfl, call_newMB 20 rfl rfl a0 (fun h => by cases h) (fun c bs rows h => ?_)⟩
    cases h
    (refine sTk ?_; try exact True.intro)
    (refine hK _ ?_; clear hK K)
    refine W_seq ?_
    refine W_block ?_
    ((refine W_seqV ?_); intro K hK; (refine sTk ?_))
    (refine hK _ ?_; clear hK K)
    (refine W_cond rfl (fun h => by cases h) (fun _ => ?_))
    refine hcond (fun c1 => ?_) (fun c1 c2 => ?_) (fun c1 c2 c3 => ?_) (fun c1 c2 c3 c4 => ?_)
    · ((refine W_seqV ?_); intro K hK; (refine sTkX c1 ?_))
      (refine hK _ ?_; clear hK K)
      (repeat' (first | (exfalso; simp at h; done) | (refine W_seqV fun K hK => ?_; (try (refine sTk ?_)); refine hK _ ?_; clear hK K) | (refine W_ret ?_; (refine qG ?_)) | (refine W_cond rfl (fun h => ?_) (fun h => ?_) <;> (try simp only [cond_true, cond_false, ne_eq, cB] at h))))
      (try (refine sTkV ?_; try exact True.intro))
    · ((refine W_seqV ?_); intro K hK; (refine sTkX (And.intro c1 c2) ?_))
      (refine hK _ ?_; clear hK K)
      (repeat' (first | (exfalso; simp at h; done) | (refine W_seqV fun K hK => ?_; (try (refine sTk ?_)); refine hK _ ?_; clear hK K) | (refine W_ret ?_; (refine qG ?_)) | (refine W_cond rfl (fun h => ?_) (fun h => ?_) <;> (try simp only [cond_true, cond_false, ne_eq, cB] at h))))
      (try (refine sTkV ?_; try exact True.intro))
    · ((refine W_seqV ?_); intro K hK; (refine sTkX (And.intro c1 (And.intro c2 c3)) ?_))
      (refine hK _ ?_; clear hK K)
      (repeat' (first | (exfalso; simp at h; done) | (refine W_seqV fun K hK => ?_; (try (refine sTk ?_)); refine hK _ ?_; clear hK K) | (refine W_ret ?_; (refine qG ?_)) | (refine W_cond rfl (fun h => ?_) (fun h => ?_) <;> (try simp only [cond_true, cond_false, ne_eq, cB] at h))))
      (try (refine sTkV ?_; try exact True.intro))
    · ((refine W_seqV ?_); intro K hK; (refine sTkX (And.intro c1 (And.intro c2 (And.intro c3 c4))) ?_))
      (refine hK _ ?_; clear hK K)
      (repeat' (first | (exfalso; simp at h; done) | (refine W_seqV fun K hK => ?_; (try (refine sTk ?_)); refine hK _ ?_; clear hK K) | (refine W_ret ?_; (refine qG ?_)) | (refine W_cond rfl (fun h => ?_) (fun h => ?_) <;> (try simp only [cond_true, cond_false, ne_eq, cB] at h))))
      (try (refine sTkV ?_; try exact True.intro))
  rw [if_neg hv]
  have c1 : ¬ b < 0 := fun h => hv (.inl h)
  have c2 : ¬ n ≤ b := fun h => hv (.inr (.inl h))
  have c3 : ¬ o < 0 := fun h => hv (.inr (.inr (.inl h)))
  have c4 : ¬ n ≤ o := fun h => hv (.inr (.inr (.inr h)))
  cases hib : idxM M b with
  | none =>
    dsimp only
    (refine pureW Tryz.func48 rfl (rs := [Go.ResultVar.cell 6 24, Go.ResultVar.tmp 7]) rfl (n := 106) rfl ?_; simp only [List.length_cons, List.length_nil, List.replicate, List.cons_append, List.nil_append])
    (refine aTk ?_)
    ((refine W_seqR ?_); intro K hK; (refine sTk ?_))
    refine ⟨by kernel_rfl, call_newMB 20 rfl rfl a0 (fun h => by cases h) (fun c bs rows h => ?_)⟩
    cases h
    (refine sTk ?_; try exact True.intro)
    (refine hK _ ?_; clear hK K)
    refine W_seq ?_
    refine W_block ?_
    ((refine W_seqV ?_); intro K hK; (refine sTk ?_))
    (refine hK _ ?_; clear hK K)
    (refine W_cond rfl (fun h => by cases h) (fun _ => ?_))
    ((refine W_seqV ?_); intro K hK; (refine sTkX (And.intro c1 (And.intro c2 (And.intro c3 c4))) ?_))
    (refine hK _ ?_; clear hK K)
    (refine W_cond rfl (fun h => by cases h) (fun _ => ?_))
    refine W_skip ?_
    simp only [thenW, blockW]
    ((refine W_seqV ?_); intro K hK; (refine sTkX hib ?_))
    (refine hK _ ?_; clear hK K)
    cases hio : idxM M o with
    | none =>
      ((refine W_seq (W_seqV ?_)); intro K hK; (refine sTkX hio ?_))
      (refine hK _ ?_; clear hK K)
      (repeat' (first | (exfalso; simp at h; done) | (refine W_seqV fun K hK => ?_; (try (refine sTk ?_)); refine hK _ ?_; clear hK K) | (refine W_ret ?_; (refine qG ?_)) | (refine W_cond rfl (fun h => ?_) (fun h => ?_) <;> (try simp only [cond_true, cond_false, ne_eq, cB] at h))))
      (try (refine sTkV ?_; try exact True.intro))
    | some j =>
      obtain ⟨hj1, hj2, hj3, hj4⟩ := idx_some hio
      have hXj : (tab rowU M).getD j [] = rowU (M.getD j default) := rowU_getD hj1
      generalize M.getD j default = q at *
      simp only [rowU] at hXj
      ((refine W_seq (W_seqV ?_)); intro K hK; (refine sTkX (And.intro hio hXj) ?_))
      (refine hK _ ?_; clear hK K)
      (repeat' (first | (exfalso; simp at h; done) | (refine W_seqV fun K hK => ?_; (try (refine sTk ?_)); refine hK _ ?_; clear hK K) | (refine W_ret ?_; (refine qG ?_)) | (refine W_cond rfl (fun h => ?_) (fun h => ?_) <;> (try simp only [cond_true, cond_false, ne_eq, cB] at h))))
      (try (refine sTkV ?_; try exact True.intro))
  | some k =>
    dsimp only
    obtain ⟨hk1, hk2, _, hk4⟩ := idx_some hib
    have hXk : (tab rowU M).getD k [] = rowU (M.getD k default) := rowU_getD hk1
    have hfs := hM.sz _ (getD_mem hk1)
    have hw := rwhole_ok 1 (by omega) (by omega)
    have h1e : ((1 : Int) : Rat) = 1 := rfl
    rw [h1e] at hw
    have hsub := lsub_ok (rf (M.getD k default).2) (rf [(b, 1)]) (FOk.rf hfs (by omega)) (unit_fok b) (by omega)
    rw [vals_rf, vals_rf, cF_rf, cF_rf] at hsub
    change Pure _ _ _ (· = cL (wholeF b (M.getD k default).2)) at hsub
    have hwf := FOk.rf (hfs.whole b) (by omega)
    have hsol0 := lsolve_none (rf (wholeF b (M.getD k default).2)) o hwf (by omega)
    have hsol1 := lsolve_ok (rf (wholeF b (M.getD k default).2)) o hwf (by omega)
    rw [vals_rf] at hsol0 hsol1
    rw [norm_self (whole_nf _ _)] at hsol1
    change _ → Pure _ _ _ (· = .tup [.agg (affQ (solvF b (M.getD k default).2 o) 0), _]) at hsol1
    have hgs := hfs.solv b o
    have hgn := fun h => solv_nf (b := b) (f := (M.getD k default).2) (o := o) h
    generalize hgg : solvF b (M.getD k default).2 o = g at *
    generalize coef (wholeF b (M.getD k default).2) o = q at *
    have ht : tab rowQ [(b, (1 : Rat))] = [[.int .i64 b, .bool (decide ((1 : Rat).num < 0)), .sl (u32s (limbs (1 : Rat).num.natAbs)), .sl (u32s (limbs (1 : Rat).den))]] := rfl
    generalize hmm : M.getD k default = mk at *
    obtain ⟨b', f⟩ := mk
    simp only [rowU] at hXk
    dsimp only at *
    subst hk2
    generalize wholeF b' f = wh at *
    simp only [affM, affQ, zeroR, cF, cL, tab_rf, show u32s [] = [] from rfl, ht, cQ] at hw hsub hsol0 hsol1
    generalize (1 : Rat) = one at *
    generalize (0 : Rat) = zz at *
    cases hio : idxM M o with
    | some j =>
      obtain ⟨hj1, hj2, hj3, hj4⟩ := idx_some hio
      rw [if_pos hj4]
      have hXj : (tab rowU M).getD j [] = rowU (M.getD j default) := rowU_getD hj1
      generalize M.getD j default = q2 at *
      simp only [rowU] at hXj
      (refine pureW Tryz.func48 rfl (rs := [Go.ResultVar.cell 6 24, Go.ResultVar.tmp 7]) rfl (n := 106) rfl ?_; simp only [List.length_cons, List.length_nil, List.replicate, List.cons_append, List.nil_append])
      (refine aTk ?_)
      ((refine W_seqR ?_); intro K hK; (refine sTk ?_))
      refine ⟨by kernel_rfl, call_newMB 20 rfl rfl a0 (fun h => by cases h) (fun c bs rows h => ?_)⟩
      cases h
      (refine sTk ?_; try exact True.intro)
      (refine hK _ ?_; clear hK K)
      refine W_seq ?_
      refine W_block ?_
      ((refine W_seqV ?_); intro K hK; (refine sTk ?_))
      (refine hK _ ?_; clear hK K)
      (refine W_cond rfl (fun h => by cases h) (fun _ => ?_))
      ((refine W_seqV ?_); intro K hK; (refine sTkX (And.intro c1 (And.intro c2 (And.intro c3 c4))) ?_))
      (refine hK _ ?_; clear hK K)
      (refine W_cond rfl (fun h => by cases h) (fun _ => ?_))
      refine W_skip ?_
      simp only [thenW, blockW]
      ((refine W_seqV ?_); intro K hK; (refine sTkX (And.intro hib hXk) ?_))
      (refine hK _ ?_; clear hK K)
      ((refine W_seq (W_seqV ?_)); intro K hK; (refine sTkX (And.intro hio hXj) ?_))
      (refine hK _ ?_; clear hK K)
      (repeat' (first | (exfalso; simp at h; done) | (refine W_seqV fun K hK => ?_; (try (refine sTk ?_)); refine hK _ ?_; clear hK K) | (refine W_ret ?_; (refine qG ?_)) | (refine W_cond rfl (fun h => ?_) (fun h => ?_) <;> (try simp only [cond_true, cond_false, ne_eq, cB] at h))))
      (try (refine sTkV ?_; try exact True.intro))
    | none =>
      have hno := (idx_none hio).1
      rw [if_neg hno]
      by_cases hq : q = zz
      · rw [if_pos hq]
        have hsol := hsol0 hq
        (refine pureW Tryz.func48 rfl (rs := [Go.ResultVar.cell 6 24, Go.ResultVar.tmp 7]) rfl (n := 106) rfl ?_; simp only [List.length_cons, List.length_nil, List.replicate, List.cons_append, List.nil_append])
        (refine aTk ?_)
        ((refine W_seqR ?_); intro K hK; (refine sTk ?_))
        refine ⟨by kernel_rfl, call_newMB 20 rfl rfl a0 (fun h => by cases h) (fun c bs rows h => ?_)⟩
        cases h
        (refine sTk ?_; try exact True.intro)
        (refine hK _ ?_; clear hK K)
        refine W_seq ?_
        refine W_block ?_
        ((refine W_seqV ?_); intro K hK; (refine sTk ?_))
        (refine hK _ ?_; clear hK K)
        (refine W_cond rfl (fun h => by cases h) (fun _ => ?_))
        ((refine W_seqV ?_); intro K hK; (refine sTkX (And.intro c1 (And.intro c2 (And.intro c3 c4))) ?_))
        (refine hK _ ?_; clear hK K)
        (refine W_cond rfl (fun h => by cases h) (fun _ => ?_))
        refine W_skip ?_
        simp only [thenW, blockW]
        ((refine W_seqV ?_); intro K hK; (refine sTkX (And.intro hib hXk) ?_))
        (refine hK _ ?_; clear hK K)
        ((refine W_seq (W_seqV ?_)); intro K hK; (refine sTkX hio ?_))
        (refine hK _ ?_; clear hK K)
        (repeat' (first | (exfalso; simp at h; done) | (refine W_seqV fun K hK => ?_; (try (refine sTk ?_)); refine hK _ ?_; clear hK K) | refine W_skip ?_ | (refine W_cond rfl (fun h => ?_) (fun h => ?_) <;> (try simp only [cond_true, cond_false, ne_eq, cB] at h)) | refine W_seq ?_))
        ((refine W_regV ?_); intro K hK; (refine sTk ?_))
        (refine ⟨by kernel_rfl, _, .pure rfl (hw), ?_⟩; (try (refine sTk ?_)); (repeat refine aI ?_))
        (refine ⟨by kernel_rfl, _, .pure rfl (hsub), ?_⟩; (try (refine sTk ?_)))
        (refine hK _ ?_; clear hK K)
        ((refine W_seqV ?_); intro K hK; (refine sTk ?_))
        (refine ⟨by kernel_rfl, _, .pure rfl (hsol), ?_⟩; (try (refine sTk ?_)))
        (refine hK _ ?_; clear hK K)
        (repeat' (first | (exfalso; simp at h; done) | (refine W_seqV fun K hK => ?_; (try (refine sTk ?_)); refine hK _ ?_; clear hK K) | (refine W_ret ?_; (refine qG ?_)) | (refine W_cond rfl (fun h => ?_) (fun h => ?_) <;> (try simp only [cond_true, cond_false, ne_eq, cB] at h)) | refine W_seq ?_))
        (try (refine sTkV ?_; try exact True.intro))
      · rw [if_neg hq]
        have hsol := hsol1 hq
        have hNl : (M.eraseIdx k).length + 1 = t.length := by rw [List.length_eraseIdx]; simp [hk1]; omega
        have hbl : ((List.range t.length).eraseIdx k).length = (M.eraseIdx k).length := by rw [List.length_eraseIdx, List.length_eraseIdx]; simp [hk1, hml, show k < t.length by omega]
        have hbn : ((List.range t.length).eraseIdx k).Nodup := List.nodup_range.sublist (List.eraseIdx_sublist _ _)
        have hblt : ∀ x ∈ (List.range t.length).eraseIdx k, x < t.length := fun x hx => List.mem_range.1 (List.mem_of_mem_eraseIdx hx)
        have hNs : ∀ r ∈ M.eraseIdx k, NF r.2 ∧ Sz r.2 536870912 := fun r hr => ⟨hM.nf r (List.mem_of_mem_eraseIdx hr), hM.sz r (List.mem_of_mem_eraseIdx hr)⟩
        have hput : ∀ j, j < (M.eraseIdx k).length → Pure Tryz.prog 95 [.sl (tab rowQ ((M.eraseIdx k).getD j default).2), .int .i64 o, .sl (tab rowQ g)] (· = .sl (tab rowQ (putF ((M.eraseIdx k).getD j default).2 o g))) := fun j hj =>
          tput_ok _ o g (hNs _ (getD_mem hj)).2 hgs (by omega)
        have hpn := pivP_nodup hnd (at_ := k) (o := o) hno (g := g)
        have hMp : MOk (pivP M k o g) 4294967296 := by
          refine ⟨fun r hr => ?_, fun r hr => ?_, by unfold pivP; simp only [List.length_append, List.length_map, List.length_singleton]; have := hM.len; omega⟩
          · rcases List.mem_append.1 hr with hr | hr
            · obtain ⟨r', _, rfl⟩ := List.mem_map.1 hr
              exact NF.put _ _ _
            · simp at hr; subst hr; exact hgn hq
          · rcases List.mem_append.1 hr with hr | hr
            · obtain ⟨r', hr', rfl⟩ := List.mem_map.1 hr
              have h1 := (hNs r' hr').2
              have h2 := nb_coef r'.2 o
              have h3 := h1.b o
              exact (Sz.put h1 hgs o).mono (by omega)
            · simp at hr; subst hr; exact hgs.mono (by omega)
        have htold := ttold_ok (pivP M k o g) n (t.length + 1) ((List.range t.length).eraseIdx k ++ [t.length]) hMp (by omega) (by unfold pivP; simp only [List.length_append, List.length_map, List.length_singleton, hbl])
          (by rw [List.nodup_append]; refine ⟨hbn, by simp, ?_⟩; rintro a ha b hb rfl; simp at hb; subst hb; have := hblt _ ha; omega)
          (by intro x hx; rcases List.mem_append.1 hx with hx | hx; · have := hblt _ hx; omega
              · simp at hx; omega)
        have hNn : (keys (M.eraseIdx k)).Nodup := by
          have := hpn
          rw [keys_pivP, List.nodup_append] at this
          have h2 : keys (M.eraseIdx k) = (keys M).eraseIdx k := by
            have := keys_pivP (M := M) (at_ := k) (o := o) (g := g)
            unfold pivP at this
            rw [keys_append] at this
            have h3 := List.append_inj_left' this rfl
            rw [← h3]
            simp [keys, Function.comp_def]
          rw [h2]; exact this.1
        have hNo : o ∉ keys ((M.eraseIdx k).map fun r => (r.1, putF r.2 o g)) := fun h => hno (by
          simp only [keys, List.map_map, List.mem_map, Function.comp] at h
          obtain ⟨r, hr, rfl⟩ := h
          exact List.mem_map.2 ⟨r, List.mem_of_mem_eraseIdx hr, rfl⟩)
        have hio2 : idxM ((M.eraseIdx k).map fun r => (r.1, putF r.2 o g)) o = none := by
          cases h : idxM ((M.eraseIdx k).map fun r => (r.1, putF r.2 o g)) o with
          | none => rfl
          | some j => exact absurd (idx_some h).2.2.2 hNo
        have hpiv : pivP M k o g = (M.eraseIdx k).map (fun r => (r.1, putF r.2 o g)) ++ [(o, g)] := rfl
        have hrt := tab_erase (enc := rowU) M k
        rw [hpiv] at htold ⊢
        clear hpn hMp hNs hpiv hsol0 hsol1 hgn
        generalize M.eraseIdx k = N at *
        generalize hbs : (List.range t.length).eraseIdx k = bs at *
        (refine pureW Tryz.func48 rfl (rs := [Go.ResultVar.cell 6 24, Go.ResultVar.tmp 7]) rfl (n := 106) rfl ?_; simp only [List.length_cons, List.length_nil, List.replicate, List.cons_append, List.nil_append])
        (refine aTk ?_)
        ((refine W_seqR ?_); intro K hK; (refine sTk ?_))
        refine ⟨by kernel_rfl, call_newMB 20 rfl rfl a0 (fun h => by cases h) (fun c bs rows h => ?_)⟩
        cases h
        (refine sTk ?_; try exact True.intro)
        (refine hK _ ?_; clear hK K)
        refine W_seq ?_
        refine W_block ?_
        ((refine W_seqV ?_); intro K hK; (refine sTk ?_))
        (refine hK _ ?_; clear hK K)
        (refine W_cond rfl (fun h => by cases h) (fun _ => ?_))
        ((refine W_seqV ?_); intro K hK; (refine sTkX (And.intro c1 (And.intro c2 (And.intro c3 c4))) ?_))
        (refine hK _ ?_; clear hK K)
        (refine W_cond rfl (fun h => by cases h) (fun _ => ?_))
        refine W_skip ?_
        simp only [thenW, blockW]
        ((refine W_seqV ?_); intro K hK; (refine sTkX (And.intro hib hXk) ?_))
        (refine hK _ ?_; clear hK K)
        ((refine W_seq (W_seqV ?_)); intro K hK; (refine sTkX hio ?_))
        (refine hK _ ?_; clear hK K)
        (repeat' (first | (exfalso; simp at h; done) | (refine W_seqV fun K hK => ?_; (try (refine sTk ?_)); refine hK _ ?_; clear hK K) | refine W_skip ?_ | (refine W_cond rfl (fun h => ?_) (fun h => ?_) <;> (try simp only [cond_true, cond_false, ne_eq, cB] at h)) | refine W_seq ?_))
        ((refine W_regV ?_); intro K hK; (refine sTk ?_))
        (refine ⟨by kernel_rfl, _, .pure rfl (hw), ?_⟩; (try (refine sTk ?_)); (repeat refine aI ?_))
        (refine ⟨by kernel_rfl, _, .pure rfl (hsub), ?_⟩; (try (refine sTk ?_)))
        (refine hK _ ?_; clear hK K)
        ((refine W_seqV ?_); intro K hK; (refine sTk ?_))
        (refine ⟨by kernel_rfl, _, .pure rfl (hsol), ?_⟩; (try (refine sTk ?_)))
        (refine hK _ ?_; clear hK K)
        (repeat' (first | (exfalso; simp at h; done) | (refine W_seqV fun K hK => ?_; (try (refine sTk ?_)); refine hK _ ?_; clear hK K) | refine W_skip ?_ | (refine W_cond rfl (fun h => ?_) (fun h => ?_) <;> (try simp only [cond_true, cond_false, ne_eq, cB] at h)) | refine W_seq ?_))
        refine W_regR fun K hK => ?_
        (refine sTkX hib ?_; try exact True.intro)
        skip
        refine hK _ ?_
        clear hK K
        rw [hrt, hbs]
        simp only [thenW]
        ((refine W_seq (W_seqR ?_)); intro K hK; (refine sTk ?_))
        (refine hK _ ?_; clear hK K)
        refine W_block (W_loop (fun s : {sn : List Nat // Seen bs sn} =>
          ⟨(.any :: .any :: (.int .i64 o) :: (.ptr 3 0 0) :: .any :: .any :: (.ptr 6 0 0) :: .any :: (.mp 20) :: .any :: .any :: .any :: .any :: .any :: .any :: (.ptr 15 0 0) :: .any :: .any :: .any :: .any :: .any :: .any :: .any :: .any :: .any :: .any :: .any :: .any :: .any :: .any :: .any :: .any :: .any :: .any :: .any :: .any :: .any :: .any :: .any :: .any :: .any :: .any :: .any :: .any :: .any :: .any :: .any :: .any :: .any :: .any :: .any :: .any :: .any :: .any :: .any :: .any :: .any :: .any :: .any :: .any :: .any :: .any :: .any :: .any :: .any :: .any :: .any :: .any :: .any :: .any :: .any :: .any :: .any :: .any :: .any :: .any :: .any :: .any :: .any :: .any :: .any :: .any :: .any :: .any :: (.it 84) :: .any :: .any :: .any :: .any :: .any :: .any :: .any :: .any :: .any :: .any :: .any :: .any :: .any :: .any :: .any :: .any :: .any :: .any :: .any :: .any :: .any :: []),
           (.dead :: .dead :: .dead :: (.arr 24 2 false [[.int .i64 n, .sl (tab rowT t)]]) :: .dead :: .dead :: (.arr 24 2 false [[.int .i64 0, .nils]]) :: .dead :: .dead :: .dead :: .dead :: .dead :: .dead :: .dead :: .dead :: (.arr 121 4 false [[.sl (tab rowQ g), .bool (decide (zz.num < 0)), .sl (u32s (limbs zz.num.natAbs)), .sl (u32s (limbs zz.den))]]) :: .dead :: .dead :: .dead :: .dead :: (.map t.length bs (tab rowU (updS bs s.1 N o g))) :: .dead :: .dead :: .dead :: .dead :: .dead :: .dead :: .dead :: .dead :: .dead :: .dead :: .dead :: .dead :: .dead :: .dead :: .dead :: .dead :: .dead :: .dead :: .dead :: .dead :: .dead :: .dead :: .dead :: .dead :: .dead :: .dead :: .dead :: .dead :: .dead :: .dead :: .dead :: .dead :: .dead :: .dead :: .dead :: .dead :: .dead :: .dead :: .dead :: .dead :: .dead :: .dead :: .dead :: .dead :: .dead :: .dead :: .dead :: .dead :: .dead :: .dead :: .dead :: .dead :: .dead :: .dead :: .dead :: .dead :: .dead :: .dead :: .dead :: .dead :: .dead :: .dead :: .dead :: (.iter (.mp 20) t.length s.1 t.length) :: .dead :: .dead :: .dead :: .dead :: .dead :: .dead :: .dead :: .dead :: .dead :: .dead :: .dead :: .dead :: .dead :: .dead :: .dead :: .dead :: .dead :: .dead :: .dead :: .dead :: .dead :: [])⟩) (fun s => bs.length - s.1.length)
          ⟨[], Seen.nil _⟩ (Le_drop (by simp [leE]) (by simp [leH, updS_nil]) rfl rfl) fun s => ?_)
        obtain ⟨sn, hsn⟩ := s
        dsimp only
        ((refine W_seqR ?_); intro K hK; (refine sTk ?_))
        refine ⟨Nat.le_refl _, hblt, fun hall => hK _ ?_, fun j x hj hx => hK _ ?_⟩ <;> clear hK K
        · rw [updS_all hbl hall]
          (refine W_seq (W_cond rfl (fun h => by cases h) (fun _ => ?_)))
          refine W_exit ?_
          simp only [thenW, blockW, if_true]
          ((refine W_seqR ?_); intro K hK; (refine sTkX hio2 ?_))
          (refine hK _ ?_; clear hK K)
          have hrw : tab rowU (N.map fun r => (r.1, putF r.2 o g)) ++ [[.int .i64 o, .sl (tab rowQ g)]] = tab rowU (N.map (fun r => (r.1, putF r.2 o g)) ++ [(o, g)]) := tab_snoc (enc := rowU) _ (o, g)
          rw [hrw]
          refine W.le ?_ (Le_freezeM 20 8 (e' := (.any :: .any :: .any :: (.ptr 3 0 0) :: .any :: .any :: (.ptr 6 0 0) :: .any :: .any :: .any :: .any :: .any :: .any :: .any :: .any :: .any :: .any :: .any :: .any :: .any :: .any :: .any :: .any :: .any :: .any :: .any :: .any :: .any :: .any :: .any :: .any :: .any :: .any :: .any :: .any :: .any :: .any :: .any :: .any :: .any :: .any :: .any :: .any :: .any :: .any :: .any :: .any :: .any :: .any :: .any :: .any :: .any :: .any :: .any :: .any :: .any :: .any :: .any :: .any :: .any :: .any :: .any :: .any :: .any :: .any :: .any :: .any :: .any :: .any :: .any :: .any :: .any :: .any :: .any :: .any :: .any :: .any :: .any :: .any :: .any :: .any :: .any :: .any :: .any :: .any :: .any :: .any :: .any :: .any :: .any :: .any :: .any :: .any :: .any :: .any :: .any :: .any :: .any :: .any :: .any :: .any :: .any :: .any :: .any :: .any :: .any :: [])) (hp' := (.dead :: .dead :: .dead :: (.arr 24 2 false [[.int .i64 n, .sl (tab rowT t)]]) :: .dead :: .dead :: (.arr 24 2 false [[.int .i64 0, .nils]]) :: .dead :: .dead :: .dead :: .dead :: .dead :: .dead :: .dead :: .dead :: .dead :: .dead :: .dead :: .dead :: .dead :: .dead :: .dead :: .dead :: .dead :: .dead :: .dead :: .dead :: .dead :: .dead :: .dead :: .dead :: .dead :: .dead :: .dead :: .dead :: .dead :: .dead :: .dead :: .dead :: .dead :: .dead :: .dead :: .dead :: .dead :: .dead :: .dead :: .dead :: .dead :: .dead :: .dead :: .dead :: .dead :: .dead :: .dead :: .dead :: .dead :: .dead :: .dead :: .dead :: .dead :: .dead :: .dead :: .dead :: .dead :: .dead :: .dead :: .dead :: .dead :: .dead :: .dead :: .dead :: .dead :: .dead :: .dead :: .dead :: .dead :: .dead :: .dead :: .dead :: .dead :: .dead :: .dead :: .dead :: .dead :: .dead :: .dead :: .dead :: .dead :: .dead :: .dead :: .dead :: .dead :: .dead :: .dead :: .dead :: .dead :: .dead :: .dead :: .dead :: .dead :: .dead :: .dead :: .dead :: .dead :: .dead :: .dead :: [])) rfl rfl (by simp) (by simp [leE]) (by simp [leH]) rfl rfl rfl)
          simp only [List.set]
          unfold cU at htold
          ((refine W_seqV ?_); intro K hK; (refine sTk ?_))
          (refine ⟨by kernel_rfl, _, .pure rfl (htold), ?_⟩; (try (refine sTk ?_)))
          (refine hK _ ?_; clear hK K)
          refine W_ret ?_
          (refine qG ?_; try exact True.intro); try (refine sTkV ?_; try exact True.intro)
        · obtain ⟨hset, hget⟩ := updS_set hbn hbl hj (by have := births_lt hj; omega) hx (o := o) (g := g)
          have hjl : j < N.length := by have := births_lt hj; omega
          have hXj : (tab rowU (updS bs sn N o g)).getD j [] = rowU (N.getD j default) := by rw [← hget]; exact rowU_getD (by rw [updS_len]; exact hjl)
          have hij : idxM (updS bs sn N o g) (N.getD j default).1 = some j := by
            have := idx_nodup (M := updS bs sn N o g) (by rw [updS_keys]; exact hNn) (j := j) (by rw [updS_len]; exact hjl)
            rwa [hget] at this
          have hp := hput j hjl
          have hs2 := hsn.snoc hj hx
          have hmu := hsn.lt hj hx
          generalize hP : updS bs sn N o g = P at *
          generalize hP2 : updS bs (sn ++ [x]) N o g = P2 at *
          generalize hpf : putF (N.getD j default).2 o g = pf at *
          generalize N.getD j default = r at *
          obtain ⟨rb, rf⟩ := r
          simp only [rowU] at hXj
          dsimp only at *
          rw [hXj]
          (refine W_seq (W_cond rfl (fun _ => ?_) (fun h => by cases h)))
          refine W_skip ?_
          simp only [thenW]
          refine W_block ?_
          ((refine W_seqR ?_); intro K hK; (refine sTk ?_))
          refine ⟨j, x, by simp, hj, ?_⟩
          (refine sTkX hXj ?_; try exact True.intro)
          (refine hK _ ?_; clear hK K)
          ((refine W_regT 9 fun K hK => ?_); (refine sTkX (And.intro hij hXj) ?_))
          (refine ⟨by kernel_rfl, _, .pure rfl (hp), ?_⟩; (try (refine sTk ?_)))
          have hrw2 : (tab rowU P).set j [.int .i64 rb, .sl (tab rowQ pf)] = tab rowU P2 := by rw [← hset]; exact tab_set (enc := rowU) P j (rb, pf)
          rw [hrw2]
          (refine hK _ ?_; clear hK K)
          simp only [thenW, blockW]
          refine ⟨⟨sn ++ [x], hs2⟩, Le_drop (by simp [leE]) (by simp [leH, hP2]) rfl rfl, ?_⟩
          exact hmu
end Go.Proofs.YtjmpajgjaefcjaaGreat.Vm

