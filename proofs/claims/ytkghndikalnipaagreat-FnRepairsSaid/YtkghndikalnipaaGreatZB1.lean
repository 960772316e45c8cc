/- Printed by a program: the walk. -/
import Derived.Test.YtkghndikalnipaaGreatZTh
set_option linter.unusedSimpArgs false
set_option linter.unusedVariables false
namespace Go.Proofs.YtkghndikalnipaaGreat.En
open Go.IntKind renaming wrap→acK
open Go
abbrev Cj:=@Int.toNat_natCast
abbrev Ck:=@Int.natCast_nonneg
abbrev Cm:=@Int.ofNat_lt
abbrev Cn:=@List.getElem_mem
abbrev Cp:=@Int.lt_irrefl
abbrev Cq:=@List.take_length
abbrev Cr:=@List.take_add_one
abbrev Ct:=@List.pairwise_iff_getElem
abbrev Cu:=@List.length_set
abbrev Cv:=@List.filter_append
abbrev Cw:=@Sum.elim_inl
abbrev Cx:=@Nat.le_succ_of_le
abbrev Cy:=@List.pairwise_append
abbrev Cz:=@Sum.elim_inr
abbrev CA:=@Nat.sub_zero
abbrev CB:=@List.length_filter_le
abbrev CC:=@List.pairwise_cons
abbrev CD:=@List.getElem?_set_ne
abbrev CE:=@List.getElem_take
abbrev CF:=@List.take_append_of_le_length
abbrev CG:=@List.pairwise_singleton
abbrev CH:=@List.flatten_append
abbrev CI:=@List.mem_filter
abbrev CJ:=@Nat.not_lt_zero
abbrev CK:=@Int.toNat_zero
abbrev CL:=@List.drop_set_of_lt
abbrev CM:=@List.getElem?_set_self
abbrev CN:=@Int.toNat_of_nonneg
abbrev CO:=@Bool.false_and
noncomputable section
abbrev Iv:List Ty:=[.i .i64]
abbrev IT:List Ty:=[.ls (.i .i64)]
abbrev M4:List Ty:=[.st .cluster,.i .i64]
abbrev RR:List Ty:=[.st .cluster]
abbrev TV:List Ty:=[.ls (.st .entry)]
abbrev VQ:List Ty:=[.st .config,.b]
abbrev XY:List Ty:=[.ls (.st .entry),.b]
abbrev Z9:List Ty:=[.st .server]
abbrev aaa:List Ty:=[.st .config]
abbrev aab:List Ty:=[.st .masterLog]
abbrev Xj:List Ty:=[.st .masterLog,.b]
abbrev Xk:List Ty:=[.st .server,.b]
abbrev Xl:List Ty:=[.st .cluster,.st .config]
abbrev Zd:List Ty:=[.i .i64,.ls (.st .entry)]
abbrev abl:List Ty:=[.st .cluster,.st .reply]
abbrev abm:List Ty:=[.st .cluster,.i .i64,.i .i64]
abbrev Ki:List jx:=[.ty (.st .cluster),.ty (.i .i64)]
abbrev P1:List jx:=[.ty (.st .cluster),.ty (.i .i64),.ty (.i .i64)]
abbrev QD:List jx:=[.ty (.ls (.st .entry))]
abbrev QY:List jx:=[.ty (.st .cluster)]
abbrev TU:List jx:=[.ty (.st .server),.ty (.i .i64)]
abbrev UY:List jx:=[.ty (.i .i64)]
abbrev UZ:List jx:=[.ty (.ls (.i .i64)),.ty (.ls (.i .i64))]
abbrev VJ:List jx:=[.ty (.st .masterLog)]
abbrev WF:List jx:=[.ty (.ls (.i .i64))]
abbrev WG:List jx:=[.ty (.st .config)]
abbrev Ul:List jx:=[.ty (.st .server)]
abbrev VH:List jx:=[.ty (.ls (.i .i64)),.ty (.i .i64)]
abbrev VI:List jx:=[.ty (.st .op)]
abbrev Xc:List jx:=[.ty (.st .lease)]
abbrev Xd:List jx:=[.ty (.st .masterLog),.ty (.i .i64)]
abbrev YT:List jx:=[.ty (.i .i64),.ty (.i .i64),.ty (.i .i64)]
abbrev YU:List jx:=[.ty (.ls (.st .place))]
abbrev YV:List jx:=[.ty (.ls (.i .i64)),.ty (.i .i64),.ty (.i .i64)]
abbrev YW:List jx:=[.ty (.ls (.st .entry)),.ty (.i .i64)]
abbrev aaE:List jx:=[.ty (.st .config),.ty (.st .config)]
abbrev aaF:List jx:=[.ty (.st .config),.ty (.i .i64)]
abbrev aaG:List jx:=[.ty (.ls (.st .entry)),.ty (.i .i64),.ty (.i .i64)]
abbrev aaH:List jx:=[.ty (.st .machine),.ty (.i .i64)]
abbrev aaI:List jx:=[.ty (.st .cluster),.ty (.i .i64),.ty (.st .op)]
abbrev aaJ:List jx:=[.ty (.st .lease),.ty (.i .i64)]
abbrev aaK:List jx:=[.ty (.st .lease),.ty (.i .i64),.ty (.i .i64),.ty (.i .i64),.ty (.i .i64)]
abbrev aaL:List jx:=[.ty (.ls (.st .place)),.ty (.ls (.i .i64))]
abbrev aaM:List jx:=[.ty (.ls (.st .place)),.ty (.i .i64)]
abbrev aaN:List jx:=[.ty (.ls (.st .place)),.ty (.ls (.i .i64)),.ty (.ls (.i .i64))]
abbrev aaO:List jx:=[.ty (.ls (.st .place)),.ty (.ls (.i .i64)),.ty (.ls (.i .i64)),.ty (.i .i64)]
abbrev aaP:List jx:=[.ty (.st .masterLog),.ty (.st .config)]
abbrev aaQ:List jx:=[.ty (.st .cluster),.ty (.st .config)]
abbrev aaR:List jx:=[.ty (.i .i64),.ty (.ls (.st .entry))]
abbrev aaS:List jx:=[.ty (.ls (.st .entry)),.ty (.ls (.st .entry))]
abbrev aaT:List jx:=[.ty (.ls (.st .entry)),.ty (.i .i64),.ty (.ls (.st .entry))]
abbrev aaU:List jx:=[.ty (.st .server),.ty (.st .config),.ty (.i .i64),.ty (.ls (.st .entry))]
abbrev aaV:List jx:=[.ty (.st .cluster),.ty (.i .i64),.ty (.i .i64),.ty (.i .i64)]
abbrev aaW:List jx:=[.ty (.st .cluster),.ty (.st .event)]
abbrev aaX:List jx:=[.ty (.ls (.i .i64)),.fc 234]
abbrev aaY:List jx:=[.ty (.i .i64),.ty (.i .i64)]
abbrev aaZ:List jx:=[.ty (.ls (.st .place)),.fc 236]
abbrev aa0:List jx:=[.ty (.i .i64),.pr (.st .cluster),.pr (.st .config)]
abbrev aa1:List jx:=[.ty (.i .i64),.pr (.st .cluster)]
abbrev aa2:List jx:=[.ty (.ls (.st .entry)),.fc 206]
abbrev LR:Type:=(Int×Unit×Unit×Unit×Int×Int×Int×Int×Int×Unit×Unit)
abbrev MI:Type:=(Int×List o4×List Int×List mD×Int×Int×Int×Int×Int×List tc×Unit)
abbrev QZ:Type:=(Int×Int×Unit×Unit×Unit)
abbrev RQ:Type:=(Unit×Int×Unit)
abbrev XX:Type:=(Unit×Unit×Int×Unit)
abbrev Zc:Type:=(Unit×Unit×Unit)
abbrev Z8:Type:=(Unit×Unit×Unit×Int×Unit)
abbrev abL:Type:=(List mD×Int×Unit)
abbrev abM:Type:=(List Int×List Int×Unit×Int×Unit)
abbrev abN:Type:=(List Int×List mq×Unit)
abbrev Y7:Type:=(Int×Unit×Unit×Unit×Bool×Int×Unit)
abbrev Y8:Type:=(Bool×Bool×Int×Int×Int×Int×List Int×List Int×Int×List pZ×Int×List pZ×Unit)
abbrev Y9:Type:=(Unit×Unit×Unit×Unit×Unit×Unit×Int×Unit)
abbrev Za:Type:=(oZ×mD×Unit)
abbrev Zb:Type:=(oZ×Unit)
abbrev aa9:Type:=(Int×Unit×List Int×List mD×Int×Int×Int×Int×Int×List tc×Unit)
abbrev aba:Type:=(List Int×Int×Unit)
abbrev abc:Type:=(List Int×Int×Int×Unit)
abbrev abd:Type:=(List pZ×Int×Unit)
abbrev abe:Type:=(List Int×Unit×Int×Unit)
abbrev abf:Type:=(Unit×Int×Unit×Int×Unit)
abbrev abg:Type:=(List tc×List Int×List Int×Int×Unit×Int×Unit)
abbrev abh:Type:=(List tc×Int×Unit×Unit×Unit)
abbrev abi:Type:=(List pZ×Unit×Int×Int×Unit)
abbrev abj:Type:=(List Int×List Int×Int×Int×Unit)
abbrev abk:Type:=(List pZ×List pZ×Int×Int×Unit)
abbrev J9:Nat×lh:=(1,.cl (.ptr 0 0))
abbrev Ka:Nat×lh:=(1,.cl (.int .i64))
abbrev LP:Nat×lh:=(4,.cl (.int .i64))
abbrev LQ:Nat×lh:=(2,.cl (.ptr 0 0))
abbrev Mu:Nat×lh:=(5,.cl (.int .i64))
abbrev MH:Nat×lh:=(3,.cl (.int .i64))
abbrev M2:Nat×lh:=(0,.cl (.ro (.i .i64)))
abbrev M3:Nat×lh:=(7,.cl (.int .i64))
abbrev N5:Nat×lh:=(5,.cl (.own 0 (.i .i64)))
abbrev OY:Nat×lh:=(6,.cl (.ptr 1 0))
abbrev Ly:Nat×lh:=(0,.cl (.ro (.st .entry)))
abbrev Ms:Nat×lh:=(2,.cl (.dead))
abbrev Mt:Nat×lh:=(6,.cl (.int .i64))
abbrev MR:Nat×lh:=(4,.cl (.dead))
abbrev NA:Nat×lh:=(2,.cl (.bl))
abbrev NB:Nat×lh:=(2,.cl (.ptr 1 0))
abbrev NC:Nat×lh:=(8,.cl (.int .i64))
abbrev ND:Nat×lh:=(0,.cl (.own 0 (.i .i64)))
abbrev OW:Nat×lh:=(0,.cl (.ro (.st .place)))
abbrev OX:Nat×lh:=(12,.cl (.int .i64))
abbrev PD:Nat×lh:=(1,.cl (.ro (.i .i64)))
abbrev PE:Nat×lh:=(2,.cl (.int .i64))
abbrev PF:Nat×lh:=(4,.cl (.ptr 0 0))
abbrev PG:Nat×lh:=(9,.cl (.bl))
abbrev Rm:Nat×lh:=(3,.cl (.ptr 1 0))
abbrev Rn:Nat×lh:=(4,.cl (.ptr 1 0))
abbrev Rp:Nat×lh:=(3,.cl (.ptr 0 0))
abbrev Rq:Nat×lh:=(4,.cl (.ptr 2 0))
abbrev Rr:Nat×lh:=(5,.cl (.ptr 3 0))
abbrev Rs:Nat×lh:=(7,.cl (.own 0 (.st .entry)))
abbrev SP:Nat×lh:=(0,.cl (.pt 0 3))
abbrev SQ:Nat×lh:=(4,.cl (.bl))
abbrev SR:Nat×lh:=(11,.cl (.int .i64))
abbrev ST:Nat×lh:=(10,.cl (.int .i64))
abbrev SU:Nat×lh:=(9,.cl (.own 1 (.i .i64)))
abbrev Um:Nat×lh:=(3,.cl (.own 0 (.i .i64)))
abbrev Un:Nat×lh:=(6,.cl (.own 0 (.st .entry)))
abbrev VK:Nat×lh:=(3,.cl (.ptr 2 0))
abbrev VL:Nat×lh:=(8,.cl (.bl))
abbrev VN:Nat×lh:=(8,.cl (.own 0 (.i .i64)))
abbrev VO:Nat×lh:=(9,.cl (.own 0 (.i .i64)))
abbrev VP:Nat×lh:=(7,.cl (.bl))
abbrev Xe:Nat×lh:=(6,.cl (.own 0 (.i .i64)))
abbrev Xf:Nat×lh:=(3,.cl (.str))
abbrev Xg:Nat×lh:=(3,.cl (.own 1 (.i .i64)))
abbrev Xh:Nat×lh:=(3,.cl (.own 1 (.st .entry)))
abbrev Xi:Nat×lh:=(8,.cl (.own 0 (.st .entry)))
abbrev YX:Nat×lh:=(6,.cl (.dead))
abbrev YY:Nat×lh:=(7,.cl (.ptr 3 0))
abbrev YZ:Nat×lh:=(7,.cl (.own 0 (.i .i64)))
abbrev Y0:Nat×lh:=(8,.cl (.ptr 1 0))
abbrev Y1:Nat×lh:=(6,.cl (.ptr 2 0))
abbrev Y2:Nat×lh:=(13,.cl (.int .i64))
abbrev Y3:Nat×lh:=(16,.cl (.int .i64))
abbrev Y4:Nat×lh:=(33,.cl (.own 1 (.i .i64)))
abbrev Y5:Nat×lh:=(34,.cl (.int .i64))
abbrev Y6:Nat×lh:=(35,.cl (.int .i64))
abbrev aa3:Nat×lh:=(3,.cl (.own 1 (.st .place)))
abbrev aa4:Nat×lh:=(5,.cl (.own 1 (.st .event)))
abbrev aa5:Nat×lh:=(10,.cl (.own 1 (.i .i64)))
abbrev aa6:Nat×lh:=(11,.cl (.own 1 (.i .i64)))
abbrev aa7:Nat×lh:=(10,.cl (.own 0 (.i .i64)))
abbrev aa8:Nat×lh:=(7,.cl (.own 0 (.st .reply)))
abbrev F0:List Ty:=[.i .i64]
abbrev WL:List Ty:=[.st .entry,.i .i64,.st .server,.i .i64,.st .config,.st .place,.i .i64,.i .i64]
abbrev X1:List Ty:=[.st .server,.i .i64,.st .config,.st .place]
abbrev X2:List Ty:=[.st .entry,.i .i64,.i .i64]
abbrev Zm:List Ty:=[.i .i64,.st .server,.i .i64,.st .config,.st .place]
abbrev aac:List Ty:=[.st .config]
abbrev aad:List Ty:=[.st .server]
abbrev aae:List Ty:=[.i .i64,.st .session]
abbrev aaf:List Ty:=[.i .i64,.i .i64]
abbrev aag:List Ty:=[.st .entry]
abbrev Xq:List Ty:=[.st .cur,.i .i64]
abbrev Xr:List Ty:=[.st .cur,.st .entry]
abbrev Zl:List Ty:=[.i .i64,.i .i64,.i .i64]
abbrev abr:List Ty:=[.st .server,.i .i64,.st .place]
abbrev abt:List Ty:=[.i .i64,.i .i64,.i .i64,.i .i64]
abbrev abu:List Ty:=[.st .reply,.st .server,.i .i64,.st .config,.st .place]
abbrev Jd:List Sh:=[.int .i64,.ro (.st .server),.ro (.i .i64),.ro (.st .config),.int .i64,.int .i64,.int .i64,.int .i64,.int .i64,.ro (.st .place)]
abbrev Li:List Sh:=[.int .i64,.em,.em,.em,.int .i64,.int .i64,.int .i64,.int .i64,.int .i64,.em]
abbrev TW:List Sh:=[.int .i64,.own 2 (.st .server),.own 3 (.i .i64),.own 4 (.st .config),.int .i64,.int .i64,.int .i64,.int .i64,.int .i64,.own 5 (.st .place)]
abbrev VS:List Sh:=[.int .i64,.own 0 (.st .server),.own 1 (.i .i64),.own 2 (.st .config),.int .i64,.int .i64,.int .i64,.int .i64,.int .i64,.own 3 (.st .place)]
abbrev WH:List Sh:=[.ro (.st .config),.int .i64]
abbrev WI:List Sh:=[.ro (.i .i64),.ro (.st .session)]
abbrev WJ:List Sh:=[.int .i64,.own 1 (.st .server),.own 2 (.i .i64),.own 3 (.st .config),.int .i64,.int .i64,.int .i64,.int .i64,.int .i64,.own 4 (.st .place)]
abbrev WK:List Sh:=[.int .i64,.int .i64,.own 6 (.i .i64),.own 7 (.i .i64)]
abbrev XZ:List Sh:=[.em,.int .i64]
abbrev X0:List Sh:=[.int .i64,.int .i64,.own 1 (.i .i64),.own 2 (.i .i64)]
abbrev Xm:List Sh:=[.own 0 (.st .config),.int .i64]
abbrev Xn:List Sh:=[.int .i64,.own 0 (.st .server),.ro (.i .i64),.ro (.st .config),.int .i64,.int .i64,.int .i64,.int .i64,.int .i64,.ro (.st .place)]
abbrev Xo:List Sh:=[.bl,.int .i64]
abbrev Xp:List Sh:=[.own 0 (.i .i64),.own 1 (.st .session)]
abbrev Ze:List Sh:=[.int .i64,.int .i64,.bl,.int .i64]
abbrev Zf:List Sh:=[.int .i64,.int .i64,.own 2 (.i .i64),.own 3 (.i .i64)]
abbrev Zg:List Sh:=[.bl,.bl,.int .i64,.int .i64,.int .i64,.int .i64,.ro (.i .i64),.ro (.i .i64),.int .i64,.ro (.st .entry),.int .i64,.ro (.st .entry)]
abbrev Zh:List Sh:=[.int .i64,.int .i64,.own 0 (.i .i64),.own 1 (.i .i64)]
abbrev Zi:List Sh:=[.pro (.st .cluster),.pro (.st .config)]
abbrev Zj:List Sh:=[.pro (.st .cluster)]
abbrev Zk:List Sh:=[.int .i64,.int .i64,.own 2 (.i .i64),.own 1 (.i .i64)]
abbrev abn:List Sh:=[.int .i64,.own 0 (.st .server),.own 1 (.i .i64),.em,.int .i64,.int .i64,.int .i64,.int .i64,.int .i64,.own 2 (.st .place)]
abbrev abo:List Sh:=[.int .i64,.int .i64,.int .i64,.int .i64,.int .i64,.int .i64]
abbrev abp:List Sh:=[.int .i64,.int .i64,.em,.em]
abbrev abq:List Sh:=[.own 1 (.st .config),.int .i64]
def sb0:ByteArray:=⟨⟨[0,1,2,2,3,3,3,3,4,4,4,4,4,4,4,4,5,5,5,5,5,5,5,5,5,5,5,5,5,5,5,5,6,6,6,6,6,6,6,6,6,6,6,6,6,6,6,6,6,6,6,6,6,6,6,6,6,6,6,6,6,6,6,6,7,7,7,7,7,7,7,7,7,7,7,7,7,7,7,7,7,7,7,7,7,7,7,7,7,7,7,7,7,7,7,7,7,7,7,7,7,7,7,7,7,7,7,7,7,7,7,7,7,7,7,7,7,7,7,7,7,7,7,7,7,7,7,7,8,8,8,8,8,8,8,8,8,8,8,8,8,8,8,8,8,8,8,8,8,8,8,8,8,8,8,8,8,8,8,8,8,8,8,8,8,8,8,8,8,8,8,8,8,8,8,8,8,8,8,8,8,8,8,8,8,8,8,8,8,8,8,8,8,8,8,8,8,8,8,8,8,8,8,8,8,8,8,8,8,8,8,8,8,8,8,8,8,8,8,8,8,8,8,8,8,8,8,8,8,8,8,8,8,8,8,8,8,8,8,8,8,8,8,8,8,8,8,8,8,8,8,8,8,8,8,8]⟩⟩
theorem Kb:Tryz.prog.follows .mixedOrders=true:=by kernel_rfl
abbrev F6[dp] :=@Ci _ _ Ch Kb _
abbrev Dh[dp] :=@B8 _ _ Ch Kb _
abbrev coM[dp] :=@Cc _ _ Ch Kb _
abbrev coI[dp] :=@Cb _ _ Ch Kb _
abbrev coC[dp] :=@B9 _ _ Ch Kb _
abbrev R4[dp] :=@Cd _ _ Ch Kb _
def Yv(a0:Hd):Option (Bool×Unit):=some (decide (1048576< (a0.n:Int)),())
section
open Go.RowKit
theorem Yc(x:Hd)(w:World):Calls Tryz.prog 7 #[.slice x.a x.n x.c] w λe w'=>e= .returned (.bool (decide (1048576< (x.n:Int))))/\Below w.heap.size w w':=by
 have mixed:Tryz.prog.follows .mixedOrders=true:=Kb
 go_enter Tryz.func7,Tryz.ntmps7
 go_wp2
 go_ret
 exact⟨rfl,Below.refl _ _⟩
end
def acd[dp] :=Ca (P:=Tryz.prog) 7 (by kernel_rfl) (Ay Tryz.func7 (by kernel_rfl) rfl) [.ty .h] [.b] rfl rfl (λx=>Yv x.1) λx y h w=>by obtain rfl:=Option.some.inj h;exact Yc x.1 w
def R5[dp](a0:Hd):Option (List o0×Unit):=(BF a0).map λc=>([c],())
section
open Go.RowKit
set_option maxHeartbeats 4000000 in
set_option maxRecDepth 100000 in
theorem V6[dp](x:Hd)(c:o0)(hx:BF x=some c)(w:World)(hB: ∀a v,dp.w.cell? a=some v->w.cell? a=some v):
  Calls Tryz.prog 45 #[.slice x.a x.n x.c] w λr w'=> ∃b cs e,r= .returned (.pointer (some ⟨b,0,none⟩))/\Below w.heap.size w w'/\w.heap.size<=b/\w'.heap[b]? =some (.cells cs e (0,0))/\cs.size=3/\ja cs 0 c:=by
 have mixed:Tryz.prog.follows .mixedOrders=true:=Kb;obtain⟨l,hl,rfl⟩:=ai.1 hx;obtain⟨hlen,hg⟩:=zG hl
 have hg2: ∀ (k:Nat) m,l[k]? =some m-> ∃ad,x.a=some ad/\w.cell? (ad.add k)=some (.int .u8 m):=λk m hk=>by obtain⟨ad,h1,h2⟩:=hg k m hk;exact⟨ad,h1,hB _ _ h2⟩
 clear hg hB hl hx;obtain⟨a,n,cp⟩:=x;simp only at hlen hg2 ⊢;obtain⟨h0,hh0⟩: ∃h0,h0=wrap64 (10101+(n:Int)):=⟨_,rfl⟩
 rw[<-hh0];obtain⟨hf,hhf⟩: ∃hf,hf=(l.take 4000).foldl BJ h0:=⟨_,rfl⟩
 rw[<-hhf]
 go_enter Tryz.func45,Tryz.ntmps45
 go_wp2
 rw[<-hh0]
 go_loop [3,4] (λh i=> ∃k:Nat,k<=n/\k<=4000/\i= .int .i64 k/\h= .int .i64 ((l.take k).foldl BJ h0)) (λ_ i=>n-(intOf i).toNat)
 case atStart=>exact⟨0,bL _,bL _,rfl,by rw[da,List.foldl_nil]⟩
 case round=>
  obtain⟨k,hk,hk4,rfl,rfl⟩:=hrel;clear hh0;by_cases h1:k<n
  ·by_cases h2:k<4000
   ·have hgk:l[k]? =some l[k] :=ao (by omega);obtain⟨ad,rfl,hc⟩:=hg2 k _ hgk
    have hnext: (l.take (k+1)).foldl BJ h0=BJ ((l.take k).foldl BJ h0) l[k] :=by rw[Cr,hgk,List.foldl_append,Option.toList_some,List.foldl_cons,List.foldl_nil]
    generalize l[k] =m at hc hnext hgk;clear hg2
    go_wp2
    refine⟨⟨k+1,h1,h2,by rw[Int.natCast_succ],by rw[hnext];rfl⟩,?_⟩;simp only[intOf];omega
   ·have hk0:l.take 4000=l.take k:=by rw[show k=4000 by omega]
    clear hg2
    go_wp2
    go_ret
    rw[hk0] at hhf;subst hhf;exact⟨_,rfl,(Below.refl _ w).alloc (aw _) _,aw _,_,⟨_,gR w _⟩,rfl,rfl,rfl,rfl⟩
  ·have hk0:l.take 4000=l.take k:=by rw[bT (by omega),bT (by omega)]
   clear hg2
   go_wp2
   go_ret
   rw[hk0] at hhf;subst hhf;exact⟨_,rfl,(Below.refl _ w).alloc (aw _) _,aw _,_,⟨_,gR w _⟩,rfl,rfl,rfl,rfl⟩
end
def W9[dp] :=B0 (P:=Tryz.prog) 45 (by kernel_rfl) (Ay Tryz.func45 (by kernel_rfl) rfl) BF V6
def Ni[dp](a0:List o0):Option (List o0×Int×Unit):=BE Bh a0
section
open Go.RowKit
set_option maxHeartbeats 4000000 in
set_option maxRecDepth 100000 in
theorem U8[dp](c:o0)(y:o0×Int)(hy:Bh c=some y)(w:World)(b O:Nat)(cs:Array Value)(e:TypeId)(hB: ∀a v,dp.w.cell? a=some v->w.cell? a=some v/\a.block≠b)(hb:w.heap[b]? =some (.cells cs e (0,0)))(hc:ja cs O c):
   Calls Tryz.prog 152 #[.pointer (some ⟨b,O,none⟩)] w λr w'=>r= .returned (.int .i64 y.2)/\w'.os=w.os/\w'.tape=w.tape/\w'.output=w.output/\w'.heap.size=w.heap.size/\(∀k,k≠b->w'.heap[k]? =w.heap[k]?)/\ ∃cs',w'.heap[b]? =some (.cells cs' e (0,0))/\cs'.size=cs.size/\ja cs' O y.1/\ ∀k,(k<O\/O+3<=k)->cs'[k]? =cs[k]? :=by
 have mixed:Tryz.prog.follows .mixedOrders=true:=Kb;have h0:w.cell? ⟨b,O,none⟩=some (.slice c.b.a c.b.n c.b.c):=by simp[World.cell?,hb,hc.1]
 have h1:w.cell? ⟨b,O+1,none⟩=some (.int .i64 c.i):=by simp[World.cell?,hb,hc.2.1]
 have h2:w.cell? ⟨b,O+2,none⟩=some (.int .i64 c.h):=by simp[World.cell?,hb,hc.2.2]
 have hf1:w.frozen? ⟨b,O+1,none⟩=false:=by simp[World.frozen?,hb]
 have hf2:w.frozen? ⟨b,O+2,none⟩=false:=by simp[World.frozen?,hb]
 unfold Bh at hy;split at hy
 ·rename_i hi;split at hy
  ·rename_i hi0;obtain⟨m,hm,rfl⟩:=ai.1 hy;obtain⟨l,hl,hm⟩:=af.1 hm;obtain⟨_,hg⟩:=zG hl;obtain⟨ad,ha,hcell⟩:=hg _ _ hm;obtain⟨hc2,hne⟩:=hB _ _ hcell;rw[jz] at hne;clear hy hg hB hl;obtain⟨⟨a,n,cp⟩,i,h⟩:=c;simp only at hi hi0 ha h0 h1 h2 hc2 hm ⊢;subst ha;clear hm hcell;have hk: ∀v,(w.setCell ⟨b,O+2,none⟩ v).cell? (ad.add i.toNat)=some (.int .u8 m):=λv=>(World.cell?_setCell_other w _ _ v (λe=>hne (by rw[<-jz ad i.toNat,<-e]))).trans hc2
   go_enter Tryz.func152,Tryz.ntmps152
   go_wp2
   go_region
   go_wp2
   go_region
   go_wp2
   go_region
   go_wp2
   go_ret
   exact⟨rfl,rfl,rfl,rfl,Bi hb hc (.inl rfl)⟩
  ·cases hy
 ·rename_i hi;obtain rfl:=Option.some.inj hy;obtain⟨⟨a,n,cp⟩,i,h⟩:=c;simp only at hi h0 h1 h2 ⊢;clear hy hB
  go_enter Tryz.func152,Tryz.ntmps152
  go_wp2
  go_region
  go_wp2
  go_region
  go_wp2
  go_ret
  exact⟨rfl,rfl,rfl,rfl,Bi hb hc (.inr ⟨rfl,rfl⟩)⟩
end
def YP[dp] :=B4 (P:=Tryz.prog) 152 (by kernel_rfl) (Ay Tryz.func152 (by kernel_rfl) rfl) Bh U8
def CT[dp](a0:List o0)(a1:Int):Option ((List o0)×Int×Unit):=
 br (decide (a1<=0)) (some (a0,0,())) (br (decide (a1<=256)) ((Ni a0).bind λy1=>iteP (y1.1.length=a0.length) (iteP (a1=0) none (some (y1.1,(Int.tmod y1.2.1 a1),()))) none) ((Ni a0).bind λy2=>iteP (y2.1.length=a0.length) ((Ni y2.1).bind λy3=>iteP (y3.1.length=y2.1.length) ((Ni y3.1).bind λy4=>iteP (y4.1.length=y3.1.length) ((Ni y4.1).bind λy5=>iteP (y5.1.length=y4.1.length) (iteP (a1=0) none (some (y5.1,(Int.tmod (acK .i64 ((acK .i64 ((acK .i64 ((acK .i64 (y2.2.1*16777216))+(acK .i64 (y3.2.1*65536))))+(acK .i64 (y4.2.1*256))))+y5.2.1)) a1),()))) none) none) none) none))
def Ee[dp] :=R4 47 Tryz.f47 (.st .cur) UY Iv (λl x=>CT l x.1) [YP] [] (by kernel_rfl) λl x=>by simp only[CT,tm,-eq_self];kernel_rfl
abbrev QI:LX:=⟨⟨[SP,aa3,LP],[],[.st .cur,.st .place],1,22⟩,[(.ext 0,⟨[aa3],[],[.st .cur,.st .place],1,22⟩)],[],[0,3,4],[3]⟩
def LD[dp](s:XX×Unit×List o0×List tc×Unit):QI.R:=
 br (decide (s.1.2.2.1<5)) ((CT s.2.2.1 4).bind λy4=>iteP (y4.1.length=s.2.2.1.length) ((CT y4.1 4).bind λy5=>iteP (y5.1.length=y4.1.length) ((CT y5.1 4).bind λy6=>iteP (y6.1.length=y5.1.length) (iteP ((s.2.2.2.1++([(⟨y4.2.1,(acK .i64 (1+y5.2.1)),y6.2.1⟩:tc)]:List tc)).length*24<=2 ^ 40) (some (.inl (((),(),(acK .i64 (s.1.2.2.1+1)),()),(()),y6.1,(s.2.2.2.1++([(⟨y4.2.1,(acK .i64 (1+y5.2.1)),y6.2.1⟩:tc)]:List tc)),()))) none) none) none) none) (some (.inr (((),()),(()),s.2.2)))
def UX[dp] :=mu LD
def U5[dp] :=F6 Tryz.f228 [0] QI LD [Ee] [] (by kernel_rfl) λs=>by simp only[LD,tm,-eq_self];kernel_rfl
def Kz[dp](a0:List o0):Option ((List o0)×(List tc)×Unit):=
 (UX (((),(),0,()),(()),a0,([]:List tc),())).bind λe7=>some e7.2.2
def SF[dp] :=R4 228 Tryz.f228 (.st .cur) [] [.ls (.st .place)] (λl _=>Kz l) [] [U5] (by kernel_rfl) λl x=>by simp only[Kz,tm];kernel_rfl
def CY(a0:Int)(a1:Int)(a2:Int):Option (Bool×Unit):=
 br (decide (a0≥a1)) (some ((decide (a0<=a2)),())) (some (false,()))
def DT[dp] :=Dh 57 Tryz.f57 YT [.b] (λx=>CY x.1 x.2.1 x.2.2.1) [] [] (by kernel_rfl) λx=>by simp only[CY,tm];kernel_rfl
abbrev PK:LX:=⟨⟨[OW,MH],[],[],0,38⟩,[(.ret,⟨[OW,NA],[],[],0,38⟩),(.ext 0,⟨[OW,Ms],[],[],0,38⟩)],[],[0,3],[0,2]⟩
def GP(s: (List tc×Int×Unit)×Unit×Unit):PK.R:=
 br (decide (s.1.2.1< (s.1.1.length:Int))) (iteP (0<=s.1.2.1) ((s.1.1[s.1.2.1.toNat]?).bind λx3=>(CY x3.rack 0 9).bind λy4=>br (!y4.1) (some (.inr (.inl ((s.1.1,false,()),(()),(()))))) (iteP (0<=s.1.2.1) ((s.1.1[s.1.2.1.toNat]?).bind λx5=>(CY x5.capacity 0 9).bind λy6=>br (!y6.1) (some (.inr (.inl ((s.1.1,false,()),(()),(()))))) (iteP (0<=s.1.2.1) ((s.1.1[s.1.2.1.toNat]?).bind λx7=>(CY x7.load 0 99).bind λy8=>br (!y8.1) (some (.inr (.inl ((s.1.1,false,()),(()),(()))))) (some (.inl ((s.1.1,(acK .i64 (s.1.2.1+1)),()),(()),(()))))) none)) none)) none) (some (.inr (.inr ((s.1.1,(),()),(()),(())))))
def M0:=mu GP
def T4[dp] :=F6 Tryz.f170 [0] PK GP [DT] [] (by kernel_rfl) λs=>by simp only[GP,tm];kernel_rfl
def Dt(a0:List tc):Option (Bool×Unit):=
 (M0 ((a0,0,()),(()),(()))).bind λe9=>Sum.elim (λe9_0=>some e9_0.1.2) (λe9_1=>some (((e9_1.1.1.length:Int)==5),())) e9
def Lc[dp] :=Dh 170 Tryz.f170 YU [.b] (λx=>Dt x.1) [] [T4] (by kernel_rfl) λx=>by simp only[Dt,tm];kernel_rfl
def JC(a0:Int):Option (o4×Unit):=
 (CY a0 1 2).bind λy1=>br (!y1.1) (some ((⟨true,true,1,0,(⟨0,0,([]:List Int),([]:List Int)⟩:mD),0,([]:List pZ),0,([]:List pZ)⟩:o4),())) (some ((⟨true,true,a0,0,(⟨0,0,([]:List Int),([]:List Int)⟩:mD),0,([]:List pZ),0,([]:List pZ)⟩:o4),()))
def Re[dp] :=Dh 257 Tryz.f257 UY Z9 (λx=>JC x.1) [DT] [] (by kernel_rfl) λx=>by simp only[JC,tm];kernel_rfl
abbrev O9:LX:=⟨⟨[LQ,Rm,LP],[Li,abn],abr,0,25⟩,[(.ext 0,⟨[LQ,Rm],[Li,abn],abr,0,25⟩)],[.b 1 1 (.st .server)],[2,3,4],[2,3]⟩
def JI(s:XX×(LR×LR×Unit)×List o4×List Int×List tc×Unit):O9.R:=
 br (decide (s.1.2.2.1<5)) ((JC 1).bind λy34=>iteP ((s.2.2.1++([y34.1]:List o4)).length*152<=2 ^ 40) (some (.inl (((),(),(acK .i64 (s.1.2.2.1+1)),()),s.2.1,(s.2.2.1++([y34.1]:List o4)),s.2.2.2))) none) (some (.inr (((),(),()),s.2)))
def SO:=mu JI
def Tg[dp] :=F6 Tryz.f227 [0] O9 JI [Re] [] (by kernel_rfl) λs=>by simp only[JI,tm];kernel_rfl
def JT(a0:List tc):Option (oZ×Unit):=
 (Dt a0).bind λy1=>br (!y1.1) (some ((⟨0,([]:List o4),([]:List Int),(⟨([]:List mD),0⟩:jw),0,(⟨0,0,0⟩:s7),([]:List tc)⟩:oZ),())) (iteP (0<=(5:Int)/\(5:Int)=5/\5*((8:Nat):Int)<=2 ^ 40) (iteP ((([]:List tc)++a0).length*24<=2 ^ 40) ((SO (((),(),0,()),((0,(),(),(),0,0,0,0,0,(),()),(0,(),(),(),0,3,0,0,0,(),()),()),([]:List o4),(List.replicate (5:Int).toNat (0:Int)),(([]:List tc)++a0),())).bind λe35=>some ((⟨e35.2.1.2.1.1,e35.2.2.1,e35.2.2.2.1,(⟨([]:List mD),e35.2.1.2.1.2.2.2.2.1⟩:jw),e35.2.1.2.1.2.2.2.2.2.1,(⟨e35.2.1.2.1.2.2.2.2.2.2.1,e35.2.1.2.1.2.2.2.2.2.2.2.1,e35.2.1.2.1.2.2.2.2.2.2.2.2.1⟩:s7),e35.2.2.2.2.1⟩:oZ),())) none) none)
def UL[dp] :=Dh 227 Tryz.f227 YU RR (λx=>JT x.1) [Lc] [Tg] (by kernel_rfl) λx=>by simp only[JT,tm,-eq_self];kernel_rfl
def EP[dp](a0:List o0)(a1:Int):Option ((List o0)×Bool×Unit):=
 (CT a0 a1).bind λy1=>iteP (y1.1.length=a0.length) (some (y1.1,(y1.2.1==0),())) none
def Iq[dp] :=R4 104 Tryz.f104 (.st .cur) UY [.b] (λl x=>EP l x.1) [Ee] [] (by kernel_rfl) λl x=>by simp only[EP,tm,-eq_self];kernel_rfl
def C4[dp](a0:List o0)(a1:List Int):Option ((List o0)×Int×Unit):=
 (CT a0 (a1.length:Int)).bind λy1=>iteP (y1.1.length=a0.length) (iteP (0<=y1.2.1) ((a1[y1.2.1.toNat]?).bind λx2=>some (y1.1,x2,())) none) none
def Eg[dp] :=R4 48 Tryz.f48 (.st .cur) WF Iv (λl x=>C4 l x.1) [Ee] [] (by kernel_rfl) λl x=>by simp only[C4,tm,-eq_self];kernel_rfl
def MV[dp](a0:List o0):Option ((List o0)×Op×Unit):=
 (CT a0 3).bind λy1=>iteP (y1.1.length=a0.length) ((CT y1.1 5).bind λy2=>iteP (y2.1.length=y1.1.length) ((CT y2.1 3).bind λy3=>iteP (y3.1.length=y2.1.length) ((CT y3.1 10).bind λy4=>iteP (y4.1.length=y3.1.length) ((EP y4.1 3).bind λy5=>iteP (y5.1.length=y4.1.length) (br y5.2.1 ((C4 y5.1 ([0,0,1,5,9]:List Int)).bind λy6=>iteP (y6.1.length=y5.1.length) (some (y6.1,(⟨y1.2.1,(acK .i64 (1+y2.2.1)),2,y3.2.1,y6.2.1,y4.2.1⟩:Op),())) none) (some (y5.1,(⟨y1.2.1,(acK .i64 (1+y2.2.1)),1,y3.2.1,0,y4.2.1⟩:Op),()))) none) none) none) none) none
def UT[dp] :=R4 216 Tryz.f216 (.st .cur) [] [.st .op] (λl _=>MV l) [Ee,Iq,Eg] [] (by kernel_rfl) λl x=>by simp only[MV,tm,-eq_self];kernel_rfl
def Mh[dp](a0:List o0):Option ((List o0)×ve×Unit):=
 (CT a0 5).bind λy1=>iteP (y1.1.length=a0.length) ((CT y1.1 24).bind λy2=>iteP (y2.1.length=y1.1.length) (br (y2.2.1==0) ((CT y2.1 20).bind λy3=>iteP (y3.1.length=y2.1.length) (some (y3.1,(⟨3,y1.2.1,0,(acK .i64 (1+y3.2.1)),(⟨0,0,0,0,0,0⟩:Op)⟩:ve),())) none) (br (y2.2.1==1) ((CT y2.1 2).bind λy4=>iteP (y4.1.length=y2.1.length) ((CT y4.1 3).bind λy5=>iteP (y5.1.length=y4.1.length) (some (y5.1,(⟨4,0,y4.2.1,(acK .i64 (1+y5.2.1)),(⟨0,0,0,0,0,0⟩:Op)⟩:ve),())) none) none) (br (y2.2.1==2) (some (y2.1,(⟨5,0,0,0,(⟨0,0,0,0,0,0⟩:Op)⟩:ve),())) (br (y2.2.1==3) (some (y2.1,(⟨6,y1.2.1,0,0,(⟨0,0,0,0,0,0⟩:Op)⟩:ve),())) (let j23 (p6:Bool):Option ((List o0)×ve×Unit):=br p6 (some (y2.1,(⟨7,y1.2.1,0,0,(⟨0,0,0,0,0,0⟩:Op)⟩:ve),())) (br (y2.2.1==6) ((EP y2.1 3).bind λy7=>iteP (y7.1.length=y2.1.length) (br y7.2.1 (some (y7.1,(⟨8,y1.2.1,0,0,(⟨0,0,0,0,0,0⟩:Op)⟩:ve),())) ((MV y7.1).bind λy26=>iteP (y26.1.length=y7.1.length) (some (y26.1,(⟨1,y1.2.1,0,0,y26.2.1⟩:ve),())) none)) none) (br (y2.2.1==7) ((C4 y2.1 ([0,0,1]:List Int)).bind λy8=>iteP (y8.1.length=y2.1.length) (some (y8.1,(⟨9,y1.2.1,0,y8.2.1,(⟨0,0,0,0,0,0⟩:Op)⟩:ve),())) none) (br (y2.2.1==8) ((CT y2.1 3).bind λy9=>iteP (y9.1.length=y2.1.length) (some (y9.1,(⟨10,0,0,(acK .i64 (1+y9.2.1)),(⟨0,0,0,0,0,0⟩:Op)⟩:ve),())) none) (let j22 (p10:Bool):Option ((List o0)×ve×Unit):=br p10 ((CT y2.1 12).bind λy11=>iteP (y11.1.length=y2.1.length) (some (y11.1,(⟨11,0,0,y11.2.1,(⟨0,0,0,0,0,0⟩:Op)⟩:ve),())) none) (br (y2.2.1==11) ((CT y2.1 5).bind λy12=>iteP (y12.1.length=y2.1.length) ((CT y12.1 4).bind λy13=>iteP (y13.1.length=y12.1.length) (some (y13.1,(⟨12,y1.2.1,y12.2.1,(acK .i64 (1+y13.2.1)),(⟨0,0,0,0,0,0⟩:Op)⟩:ve),())) none) none) (br (y2.2.1==12) (some (y2.1,(⟨13,y1.2.1,0,0,(⟨0,0,0,0,0,0⟩:Op)⟩:ve),())) (br (y2.2.1==13) (some (y2.1,(⟨14,y1.2.1,0,0,(⟨0,0,0,0,0,0⟩:Op)⟩:ve),())) (br (y2.2.1==14) (some (y2.1,(⟨15,y1.2.1,0,0,(⟨0,0,0,0,0,0⟩:Op)⟩:ve),())) (let j21 (p14:Bool):Option ((List o0)×ve×Unit):=br p14 ((CT y2.1 3).bind λy15=>iteP (y15.1.length=y2.1.length) ((CT y15.1 20).bind λy16=>iteP (y16.1.length=y15.1.length) (some (y16.1,(⟨16,0,(acK .i64 (1+y15.2.1)),(acK .i64 (1+y16.2.1)),(⟨0,0,0,0,0,0⟩:Op)⟩:ve),())) none) none) (br (y2.2.1==17) ((CT y2.1 3).bind λy19=>iteP (y19.1.length=y2.1.length) (some (y19.1,(⟨2,y1.2.1,0,y19.2.1,(⟨0,0,0,0,0,0⟩:Op)⟩:ve),())) none) (br (y2.2.1==18) ((CT y2.1 3).bind λy20=>iteP (y20.1.length=y2.1.length) (some (y20.1,(⟨2,y1.2.1,0,y20.2.1,(⟨0,0,0,0,0,0⟩:Op)⟩:ve),())) none) ((MV y2.1).bind λy27=>iteP (y27.1.length=y2.1.length) (some (y27.1,(⟨1,y1.2.1,0,0,y27.2.1⟩:ve),())) none)));br (y2.2.1==15) (j21 true) (j21 (y2.2.1==16)))))));br (y2.2.1==9) (j22 true) (j22 (y2.2.1==10))))));br (y2.2.1==4) (j23 true) (j23 (y2.2.1==5))))))) none) none
def Wy[dp] :=R4 258 Tryz.f258 (.st .cur) [] [.st .event] (λl _=>Mh l) [Ee,Iq,Eg,UT] [] (by kernel_rfl) λl x=>by simp only[Mh,tm,-eq_self];kernel_rfl
abbrev PQ:LX:=⟨⟨[SP,aa4,Mt],[],[.st .cur,.st .event],1,48⟩,[(.ext 0,⟨[aa4],[],[.st .cur,.st .event],1,48⟩)],[],[0,5,6],[5]⟩
def IU[dp](s:XX×Unit×List o0×List ve×Unit):PQ.R:=
 br (decide (s.1.2.2.1>0)) ((Mh s.2.2.1).bind λy21=>iteP (y21.1.length=s.2.2.1.length) (br (y21.2.1.kind==1) ((EP y21.1 3).bind λy22=>iteP (y22.1.length=y21.1.length) (br (!y22.2.1) ((C4 y22.1 ([0,0,1]:List Int)).bind λy23=>iteP (y23.1.length=y22.1.length) (iteP ((s.2.2.2.1++([(⟨y21.2.1.kind,y23.2.1,y21.2.1.other,y21.2.1.n,y21.2.1.op⟩:ve)]:List ve)).length*80<=2 ^ 40) (some (.inl (((),(),(acK .i64 (s.1.2.2.1-1)),()),(()),y23.1,(s.2.2.2.1++([(⟨y21.2.1.kind,y23.2.1,y21.2.1.other,y21.2.1.n,y21.2.1.op⟩:ve)]:List ve)),()))) none) none) (iteP ((s.2.2.2.1++([y21.2.1]:List ve)).length*80<=2 ^ 40) (some (.inl (((),(),(acK .i64 (s.1.2.2.1-1)),()),(()),y22.1,(s.2.2.2.1++([y21.2.1]:List ve)),()))) none)) none) (iteP ((s.2.2.2.1++([y21.2.1]:List ve)).length*80<=2 ^ 40) (some (.inl (((),(),(acK .i64 (s.1.2.2.1-1)),()),(()),y21.1,(s.2.2.2.1++([y21.2.1]:List ve)),()))) none)) none) (some (.inr (((),()),(()),s.2.2)))
def KW[dp] :=mu IU
def Ud[dp] :=F6 Tryz.f229 [0] PQ IU [Iq,Wy,Eg] [] (by kernel_rfl) λs=>by simp only[IU,tm,-eq_self];kernel_rfl
def K8[dp](a0:List o0)(a1:Int):Option ((List o0)×(List ve)×Unit):=
 (CT a0 3).bind λy1=>iteP (y1.1.length=a0.length) ((CT y1.1 20).bind λy2=>iteP (y2.1.length=y1.1.length) ((EP y2.1 2).bind λy3=>iteP (y3.1.length=y2.1.length) (br y3.2.1 ((CT y3.1 (acK .i64 (a1+1))).bind λy17=>iteP (y17.1.length=y3.1.length) ((KW (((),(),y17.2.1,()),(()),y17.1,([(⟨4,0,1,2,(⟨0,0,0,0,0,0⟩:Op)⟩:ve),(⟨5,0,0,0,(⟨0,0,0,0,0,0⟩:Op)⟩:ve)]:List ve),())).bind λe28=>some e28.2.2) none) ((CT y3.1 (acK .i64 (a1+1))).bind λy29=>iteP (y29.1.length=y3.1.length) ((KW (((),(),y29.2.1,()),(()),y29.1,([(⟨16,0,(acK .i64 (1+y1.2.1)),(acK .i64 (1+y2.2.1)),(⟨0,0,0,0,0,0⟩:Op)⟩:ve)]:List ve),())).bind λe40=>some e40.2.2) none)) none) none) none
def VD[dp] :=R4 229 Tryz.f229 (.st .cur) UY [.ls (.st .event)] (λl x=>K8 l x.1) [Ee,Iq] [Ud] (by kernel_rfl) λl x=>by simp only[K8,tm,-eq_self];kernel_rfl
def Gj(a0:mD):Option (mD×Unit):=
 iteP ((([]:List Int)++a0.replicas).length*8<=2 ^ 40) (iteP ((([]:List Int)++a0.witnesses).length*8<=2 ^ 40) (some ((⟨a0.epoch,a0.primary,(([]:List Int)++a0.replicas),(([]:List Int)++a0.witnesses)⟩:mD),())) none) none
def OM[dp] :=Dh 199 Tryz.f199 WG aaa (λx=>Gj x.1) [] [] (by kernel_rfl) λx=>by simp only[Gj,tm];kernel_rfl
def EF(a0:List pZ):Option ((List pZ)×Unit):=
 iteP ((([]:List pZ)++a0).length*56<=2 ^ 40) (some ((([]:List pZ)++a0),())) none
def I5[dp] :=Dh 103 Tryz.f103 QD TV (λx=>EF x.1) [] [] (by kernel_rfl) λx=>by simp only[EF,tm];kernel_rfl
def Gy(a0:o4):Option (o4×Unit):=
 (Gj a0.config).bind λy1=>(EF a0.log).bind λy2=>(EF a0.learned).bind λy3=>some ((⟨a0.up,a0.intact,a0.version,a0.epoch,y1.1,a0.first,y2.1,a0.commit,y3.1⟩:o4),())
def QS[dp] :=Dh 165 Tryz.f165 Ul Z9 (λx=>Gy x.1) [OM,I5] [] (by kernel_rfl) λx=>by simp only[Gy,tm];kernel_rfl
abbrev Rv:LX:=⟨⟨[J9,NB,VK,LP],[WH,XZ,Xm],aac,0,29⟩,[(.ext 0,⟨[LQ,Rm],[XZ,Xm],aac,0,29⟩)],[.b 2 0 (.st .config)],[1,2,3,4],[2,3]⟩
def Jy(s:Z8×(abL×RQ×RQ×Unit)×List mD×Unit):Rv.R:=
 br (decide (s.1.2.2.2.1< (s.2.1.1.1.length:Int))) (iteP (0<=s.1.2.2.2.1) ((s.2.1.1.1[s.1.2.2.2.1.toNat]?).bind λx14=>(Gj x14).bind λy15=>iteP ((s.2.2.1++([y15.1]:List mD)).length*64<=2 ^ 40) (some (.inl (((),(),(),(acK .i64 (s.1.2.2.2.1+1)),()),s.2.1,(s.2.2.1++([y15.1]:List mD)),()))) none) none) (some (.inr (((),(),()),s.2.1.2,s.2.2)))
def Rk:=mu Jy
def VZ[dp] :=F6 Tryz.f166 [0] Rv Jy [OM] [] (by kernel_rfl) λs=>by simp only[Jy,tm];kernel_rfl
def Kx(a0:jw):Option (jw×Unit):=
 (Rk (((),(),(),0,()),((a0.configs,a0.activated,()),((),0,()),((),a0.activated,()),()),([]:List mD),())).bind λe16=>some ((⟨e16.2.2.1,e16.2.1.2.1.2.1⟩:jw),())
def QR[dp] :=Dh 166 Tryz.f166 VJ aab (λx=>Kx x.1) [] [VZ] (by kernel_rfl) λx=>by simp only[Kx,tm];kernel_rfl
abbrev Rx:LX:=⟨⟨[J9,NB,VK,LP],[Jd,Li,Xn],aad,0,42⟩,[(.ext 0,⟨[J9,NB,VK],[Jd,Li,Xn],aad,0,42⟩)],[.b 2 1 (.st .server)],[1,2,3,4],[1,2,3]⟩
def Jz(s:Z8×(MI×LR×aa9×Unit)×List o4×Unit):Rx.R:=
 br (decide (s.1.2.2.2.1< (s.2.1.1.2.1.length:Int))) (iteP (0<=s.1.2.2.2.1) ((s.2.1.1.2.1[s.1.2.2.2.1.toNat]?).bind λx56=>(Gy x56).bind λy57=>iteP ((s.2.2.1++([y57.1]:List o4)).length*152<=2 ^ 40) (some (.inl (((),(),(),(acK .i64 (s.1.2.2.2.1+1)),()),s.2.1,(s.2.2.1++([y57.1]:List o4)),()))) none) none) (some (.inr (((),(),(),()),s.2)))
def Rl:=mu Jz
def V0[dp] :=F6 Tryz.f55 [0] Rx Jz [QS] [] (by kernel_rfl) λs=>by simp only[Jz,tm];kernel_rfl
def DF(a0:oZ):Option (oZ×Unit):=
 (Rl (((),(),(),0,()),((a0.now,a0.servers,a0.sides,a0.master.configs,a0.master.activated,a0.masterUp,a0.lease.epoch,a0.lease.holder,a0.lease.ends,a0.places,()),(0,(),(),(),0,0,0,0,0,(),()),(a0.now,(),a0.sides,a0.master.configs,a0.master.activated,a0.masterUp,a0.lease.epoch,a0.lease.holder,a0.lease.ends,a0.places,()),()),([]:List o4),())).bind λe58=>iteP ((([]:List Int)++e58.2.1.1.2.2.1).length*8<=2 ^ 40) ((Kx (⟨e58.2.1.1.2.2.2.1,e58.2.1.1.2.2.2.2.1⟩:jw)).bind λy59=>iteP ((([]:List tc)++e58.2.1.1.2.2.2.2.2.2.2.2.2.1).length*24<=2 ^ 40) (some ((⟨e58.2.1.2.2.1.1,e58.2.2.1,(([]:List Int)++e58.2.1.1.2.2.1),y59.1,e58.2.1.2.2.1.2.2.2.2.2.1,(⟨e58.2.1.2.2.1.2.2.2.2.2.2.1,e58.2.1.2.2.1.2.2.2.2.2.2.2.1,e58.2.1.2.2.1.2.2.2.2.2.2.2.2.1⟩:s7),(([]:List tc)++e58.2.1.1.2.2.2.2.2.2.2.2.2.1)⟩:oZ),())) none) none
def Ed[dp] :=Dh 55 Tryz.f55 QY RR (λx=>DF x.1) [QR] [V0] (by kernel_rfl) λx=>by simp only[DF,tm];kernel_rfl
abbrev QF:LX:=⟨⟨[M2,MH],[],[],0,19⟩,[(.ret,⟨[M2,NA],[],[],0,19⟩),(.ext 0,⟨[M2,Ms],[],[],0,19⟩)],[],[0,3],[0,2]⟩
def IA(s:aba×Unit×Unit):QF.R:=
 br (decide (s.1.2.1< (s.1.1.length:Int))) (iteP (0<=s.1.2.1) ((s.1.1[s.1.2.1.toNat]?).bind λx3=>(CY x3 0 3).bind λy4=>br (!y4.1) (some (.inr (.inl ((s.1.1,false,()),(()),(()))))) (some (.inl ((s.1.1,(acK .i64 (s.1.2.1+1)),()),(()),(()))))) none) (some (.inr (.inr ((s.1.1,(),()),(()),(())))))
def N4:=mu IA
def U2[dp] :=F6 Tryz.f167 [0] QF IA [DT] [] (by kernel_rfl) λs=>by simp only[IA,tm];kernel_rfl
def FU(a0:List Int):Option (Bool×Unit):=
 (N4 ((a0,0,()),(()),(()))).bind λe5=>Sum.elim (λe5_0=>some e5_0.1.2) (λe5_1=>some (((e5_1.1.1.length:Int)==5),())) e5
def N0[dp] :=Dh 167 Tryz.f167 WF [.b] (λx=>FU x.1) [] [U2] (by kernel_rfl) λx=>by simp only[FU,tm];kernel_rfl
abbrev O5:LX:=⟨⟨[M2,MH],[],[],0,32⟩,[(.ret,⟨[NA],[],[],0,32⟩),(.ext 0,⟨[Ms],[],[],0,32⟩)],[],[0,3],[2]⟩
def E7(s:aba×Unit×Unit):O5.R:=
 br (decide (s.1.2.1< (s.1.1.length:Int))) (iteP (0<=s.1.2.1) ((s.1.1[s.1.2.1.toNat]?).bind λx3=>(CY x3 0 4).bind λy4=>br (!y4.1) (some (.inr (.inl ((false,()),(()),(()))))) (br (decide (s.1.2.1>0)) (iteP (0<=(acK .i64 (s.1.2.1-1))) ((s.1.1[(acK .i64 (s.1.2.1-1)).toNat]?).bind λx5=>iteP (0<=s.1.2.1) ((s.1.1[s.1.2.1.toNat]?).bind λx6=>br (decide (x5≥x6)) (some (.inr (.inl ((false,()),(()),(()))))) (some (.inl ((s.1.1,(acK .i64 (s.1.2.1+1)),()),(()),(()))))) none) none) (some (.inl ((s.1.1,(acK .i64 (s.1.2.1+1)),()),(()),(())))))) none) (some (.inr (.inr (((),()),(()),(())))))
def J6:=mu E7
def Tc[dp] :=F6 Tryz.f191 [0] O5 E7 [DT] [] (by kernel_rfl) λs=>by simp only[E7,tm];kernel_rfl
def Ei(a0:List Int):Option (Bool×Unit):=
 (J6 ((a0,0,()),(()),(()))).bind λe7=>Sum.elim (λe7_0=>some e7_0.1) (λ_=>some (true,())) e7
def LK[dp] :=Dh 191 Tryz.f191 WF [.b] (λx=>Ei x.1) [] [Tc] (by kernel_rfl) λx=>by simp only[Ei,tm];kernel_rfl
abbrev PL:LX:=⟨⟨[M2,Ka,Mu],[],[],0,18⟩,[(.ret,⟨[SQ],[],[],0,18⟩),(.ext 0,⟨[MR],[],[],0,18⟩)],[],[0,1,5],[4]⟩
def HT(s:abc×Unit×Unit):PL.R:=
 br (decide (s.1.2.2.1< (s.1.1.length:Int))) (iteP (0<=s.1.2.2.1) ((s.1.1[s.1.2.2.1.toNat]?).bind λx4=>br (x4==s.1.2.1) (some (.inr (.inl ((true,()),(()),(()))))) (some (.inl ((s.1.1,s.1.2.1,(acK .i64 (s.1.2.2.1+1)),()),(()),(()))))) none) (some (.inr (.inr (((),()),(()),(())))))
def M1:=mu HT
def T7[dp] :=F6 Tryz.f86 [0] PL HT [] [] (by kernel_rfl) λs=>by simp only[HT,tm];kernel_rfl
def DD(a0:List Int)(a1:Int):Option (Bool×Unit):=
 (M1 ((a0,a1,0,()),(()),(()))).bind λe5=>Sum.elim (λe5_0=>some e5_0.1) (λ_=>some (false,())) e5
def F5[dp] :=Dh 86 Tryz.f86 VH [.b] (λx=>DD x.1 x.2.1) [] [T7] (by kernel_rfl) λx=>by simp only[DD,tm];kernel_rfl
abbrev Ur:LX:=⟨⟨[M2,Ka,Mu],[],[],0,47⟩,[(.ext 0,⟨[M2,Ka,Mu],[],[],0,47⟩)],[],[0,1,5],[0,1,5]⟩
def IC(s:abc×Unit×Unit):Ur.R:=
 br (decide (s.1.2.2.1< (s.1.1.length:Int))) (iteP (0<=s.1.2.2.1) ((s.1.1[s.1.2.2.1.toNat]?).bind λx4=>br (decide (x4<s.1.2.1)) (some (.inl ((s.1.1,s.1.2.1,(acK .i64 (s.1.2.2.1+1)),()),(()),(())))) (some (.inr (s.1,(()),(()))))) none) (some (.inr (s.1,(()),(()))))
def QW:=mu IC
def X6[dp] :=F6 Tryz.f192 [0] Ur IC [] [] (by kernel_rfl) λs=>by simp only[IC,tm];kernel_rfl
def G2(a0:List Int)(a1:Int):Option ((List Int)×Unit):=
 (QW ((a0,a1,0,()),(()),(()))).bind λe5=>let j7:Option ((List Int)×Unit):=iteP (0<=(0:Int)/\(0:Int)<=e5.1.2.2.1/\e5.1.2.2.1<=(e5.1.1.length:Int)) (iteP ((([]:List Int)++((e5.1.1.drop (0:Int).toNat).take (e5.1.2.2.1.toNat-(0:Int).toNat))).length*8<=2 ^ 40) (iteP (((([]:List Int)++((e5.1.1.drop (0:Int).toNat).take (e5.1.2.2.1.toNat-(0:Int).toNat)))++([e5.1.2.1]:List Int)).length*8<=2 ^ 40) (iteP (0<=e5.1.2.2.1/\e5.1.2.2.1<=(e5.1.1.length:Int)/\(e5.1.1.length:Int)<=(e5.1.1.length:Int)) (iteP ((((([]:List Int)++((e5.1.1.drop (0:Int).toNat).take (e5.1.2.2.1.toNat-(0:Int).toNat)))++([e5.1.2.1]:List Int))++((e5.1.1.drop e5.1.2.2.1.toNat).take ((e5.1.1.length:Int).toNat-e5.1.2.2.1.toNat))).length*8<=2 ^ 40) (some ((((([]:List Int)++((e5.1.1.drop (0:Int).toNat).take (e5.1.2.2.1.toNat-(0:Int).toNat)))++([e5.1.2.1]:List Int))++((e5.1.1.drop e5.1.2.2.1.toNat).take ((e5.1.1.length:Int).toNat-e5.1.2.2.1.toNat))),())) none) none) none) none) none;br (decide (e5.1.2.2.1< (e5.1.1.length:Int))) (iteP (0<=e5.1.2.2.1) ((e5.1.1[e5.1.2.2.1.toNat]?).bind λx6=>br (x6==e5.1.2.1) (iteP ((([]:List Int)++e5.1.1).length*8<=2 ^ 40) (some ((([]:List Int)++e5.1.1),())) none) (j7)) none) (j7)
def N2[dp] :=Dh 192 Tryz.f192 VH IT (λx=>G2 x.1 x.2.1) [] [X6] (by kernel_rfl) λx=>by simp only[G2,tm];kernel_rfl
abbrev MS:LX:=⟨⟨[M2,PD,N5,Mt],[],F0,0,27⟩,[(.ext 0,⟨[N5],[],F0,0,27⟩)],[],[0,1,5,6],[5]⟩
def FK(s:abM×Unit×List Int×Unit):MS.R:=
 br (decide (s.1.2.2.2.1< (s.1.1.length:Int))) (iteP (0<=s.1.2.2.2.1) ((s.1.1[s.1.2.2.2.1.toNat]?).bind λx5=>(DD s.1.2.1 x5).bind λy6=>br y6.1 (iteP (0<=s.1.2.2.2.1) ((s.1.1[s.1.2.2.2.1.toNat]?).bind λx7=>(G2 s.2.2.1 x7).bind λy8=>some (.inl ((s.1.1,s.1.2.1,(),(acK .i64 (s.1.2.2.2.1+1)),()),(()),y8.1,()))) none) (some (.inl ((s.1.1,s.1.2.1,(),(acK .i64 (s.1.2.2.2.1+1)),()),(()),s.2.2)))) none) (some (.inr (((),()),(()),s.2.2)))
def MP:=mu FK
def QK[dp] :=F6 Tryz.f188 [0] MS FK [F5,N2] [] (by kernel_rfl) λs=>by simp only[FK,tm];kernel_rfl
def FV(a0:List Int)(a1:List Int):Option ((List Int)×Unit):=
 (MP ((a0,a1,(),0,()),(()),([]:List Int),())).bind λe10=>some e10.2.2
def Lk[dp] :=Dh 188 Tryz.f188 UZ IT (λx=>FV x.1 x.2.1) [] [QK] (by kernel_rfl) λx=>by simp only[FV,tm];kernel_rfl
def CV(a0:mD):Option (Bool×Unit):=
 (CY a0.epoch 1 20).bind λy1=>br y1.1 ((Ei a0.replicas).bind λy2=>br y2.1 ((Ei a0.witnesses).bind λy3=>br y3.1 ((DD a0.replicas a0.primary).bind λy4=>br y4.1 ((FV a0.replicas a0.witnesses).bind λy5=>some (((y5.1.length:Int)==0),())) (some (false,()))) (some (false,()))) (some (false,()))) (some (false,()))
def Jl[dp] :=Dh 126 Tryz.f126 WG [.b] (λx=>CV x.1) [DT,LK,F5,Lk] [] (by kernel_rfl) λx=>by simp only[CV,tm];kernel_rfl
abbrev Oo:LX:=⟨⟨[J9,MH],[WH],[],0,35⟩,[(.ret,⟨[J9,NA],[WH],[],0,35⟩),(.ext 0,⟨[J9,Ms],[WH],[],0,35⟩)],[],[1,3],[1,2]⟩
def DK(s:RQ×(abL×Unit)×Unit):Oo.R:=
 br (decide (s.1.2.1< (s.2.1.1.1.length:Int))) (iteP (0<=s.1.2.1) ((s.2.1.1.1[s.1.2.1.toNat]?).bind λx4=>(CV x4).bind λy5=>br (!y5.1) (some (.inr (.inl (((),false,()),s.2.1,(()))))) (iteP (0<=s.1.2.1) ((s.2.1.1.1[s.1.2.1.toNat]?).bind λx6=>br (!(x6.epoch==(acK .i64 (s.1.2.1+1)))) (some (.inr (.inl (((),false,()),s.2.1,(()))))) (some (.inl (((),(acK .i64 (s.1.2.1+1)),()),s.2.1,(()))))) none)) none) (some (.inr (.inr (((),(),()),s.2.1,(())))))
def HN:=mu DK
def RZ[dp] :=F6 Tryz.f168 [0] Oo DK [Jl] [] (by kernel_rfl) λs=>by simp only[DK,tm];kernel_rfl
def C7(a0:jw):Option (Bool×Unit):=
 (HN (((),0,()),((a0.configs,a0.activated,()),()),(()))).bind λe7=>Sum.elim (λe7_0=>some e7_0.1.2) (λe7_1=>(CY e7_1.2.1.1.2.1 0 (e7_1.2.1.1.1.length:Int)).bind λy8=>some (y8.1,())) e7
def KU[dp] :=Dh 168 Tryz.f168 VJ [.b] (λx=>C7 x.1) [DT] [RZ] (by kernel_rfl) λx=>by simp only[C7,tm];kernel_rfl
def EM(a0:s7):Option (Bool×Unit):=
 br ((a0.epoch==0)&&((a0.holder==0)&&((a0.ends==0)&&true))) (some (true,())) ((CY a0.epoch 1 20).bind λy1=>br y1.1 ((CY a0.holder 0 4).bind λy2=>br y2.1 ((CY a0.ends 1 1049).bind λy3=>some (y3.1,())) (some (false,()))) (some (false,())))
def Nq[dp] :=Dh 169 Tryz.f169 Xc [.b] (λx=>EM x.1) [DT] [] (by kernel_rfl) λx=>by simp only[EM,tm];kernel_rfl
def DM(a0:Op):Option (Bool×Unit):=
 (CY a0.client 0 2).bind λy1=>br (!y1.1) (some (false,())) ((CY a0.seq 1 99).bind λy2=>br (!y2.1) (some (false,())) ((CY a0.object 0 2).bind λy3=>br (!y3.1) (some (false,())) ((CY a0.value 0 9).bind λy4=>br (!y4.1) (some (false,())) (br (a0.kind==1) (br (a0.old==0) (some (true,())) (br (a0.kind==2) ((CY a0.old 0 9).bind λy5=>some (y5.1,())) (some (false,())))) (br (a0.kind==2) ((CY a0.old 0 9).bind λy6=>some (y6.1,())) (some (false,())))))))
def Ld[dp] :=Dh 138 Tryz.f138 VI [.b] (λx=>DM x.1) [DT] [] (by kernel_rfl) λx=>by simp only[DM,tm];kernel_rfl
abbrev Uq:LX:=⟨⟨[Ly,MH],[],[],0,47⟩,[(.ret,⟨[Ly,NA],[],[],0,47⟩),(.ext 0,⟨[Ly,Ms],[],[],0,47⟩)],[],[0,3],[0,2]⟩
def IB(s:abd×Unit×Unit):Uq.R:=
 br (decide (s.1.2.1< (s.1.1.length:Int))) (iteP (0<=s.1.2.1) ((s.1.1[s.1.2.1.toNat]?).bind λx3=>(CY x3.epoch 1 20).bind λy4=>br (!y4.1) (some (.inr (.inl ((s.1.1,false,()),(()),(()))))) (iteP (0<=s.1.2.1) ((s.1.1[s.1.2.1.toNat]?).bind λx5=>(DM x5.op).bind λy6=>br (!y6.1) (some (.inr (.inl ((s.1.1,false,()),(()),(()))))) (br (decide (s.1.2.1>0)) (iteP (0<=(acK .i64 (s.1.2.1-1))) ((s.1.1[(acK .i64 (s.1.2.1-1)).toNat]?).bind λx7=>iteP (0<=s.1.2.1) ((s.1.1[s.1.2.1.toNat]?).bind λx8=>br (decide (x7.epoch>x8.epoch)) (some (.inr (.inl ((s.1.1,false,()),(()),(()))))) (some (.inl ((s.1.1,(acK .i64 (s.1.2.1+1)),()),(()),(()))))) none) none) (some (.inl ((s.1.1,(acK .i64 (s.1.2.1+1)),()),(()),(())))))) none)) none) (some (.inr (.inr ((s.1.1,(),()),(()),(())))))
def Nw:=mu IB
def X5[dp] :=F6 Tryz.f213 [0] Uq IB [DT,Ld] [] (by kernel_rfl) λs=>by simp only[IB,tm];kernel_rfl
def DU(a0:List pZ):Option (Bool×Unit):=
 (Nw ((a0,0,()),(()),(()))).bind λe9=>Sum.elim (λe9_0=>some e9_0.1.2) (λe9_1=>some ((decide ((e9_1.1.1.length:Int)<=16)),())) e9
def LL[dp] :=Dh 213 Tryz.f213 QD [.b] (λx=>DU x.1) [] [X5] (by kernel_rfl) λx=>by simp only[DU,tm];kernel_rfl
abbrev NG:LX:=⟨⟨[M2,PD,Mu],[],[],0,26⟩,[(.ret,⟨[SQ],[],[],0,26⟩),(.ext 0,⟨[MR],[],[],0,26⟩)],[],[0,1,5],[4]⟩
def F9(s: (List Int×List Int×Int×Unit)×Unit×Unit):NG.R:=
 br (decide (s.1.2.2.1< (s.1.1.length:Int))) (iteP (0<=s.1.2.2.1) ((s.1.1[s.1.2.2.1.toNat]?).bind λx4=>iteP (0<=s.1.2.2.1) ((s.1.2.1[s.1.2.2.1.toNat]?).bind λx5=>br (!(x4==x5)) (some (.inr (.inl ((false,()),(()),(()))))) (some (.inl ((s.1.1,s.1.2.1,(acK .i64 (s.1.2.2.1+1)),()),(()),(()))))) none) none) (some (.inr (.inr (((),()),(()),(())))))
def KF:=mu F9
def Q4[dp] :=F6 Tryz.f238 [0] NG F9 [] [] (by kernel_rfl) λs=>by simp only[F9,tm];kernel_rfl
def Hg(a0:List Int)(a1:List Int):Option (Bool×Unit):=
 br (!((a0.length:Int)==(a1.length:Int))) (some (false,())) ((KF ((a0,a1,0,()),(()),(()))).bind λe6=>Sum.elim (λe6_0=>some e6_0.1) (λ_=>some (true,())) e6)
def Sx[dp] :=Dh 238 Tryz.f238 UZ [.b] (λx=>Hg x.1 x.2.1) [] [Q4] (by kernel_rfl) λx=>by simp only[Hg,tm];kernel_rfl
def Fa(a0:mD)(a1:mD):Option (Bool×Unit):=
 br (a0.epoch==a1.epoch) (br (a0.primary==a1.primary) ((Hg a0.replicas a1.replicas).bind λy1=>br y1.1 ((Hg a0.witnesses a1.witnesses).bind λy2=>some (y2.1,())) (some (false,()))) (some (false,()))) (some (false,()))
def J0[dp] :=Dh 173 Tryz.f173 aaE [.b] (λx=>Fa x.1 x.2.1) [Sx] [] (by kernel_rfl) λx=>by simp only[Fa,tm];kernel_rfl
def HW(a0:mD):Option (Bool×Unit):=
 (Fa a0 (⟨0,0,([]:List Int),([]:List Int)⟩:mD)).bind λy1=>some (y1.1,())
def Pn[dp] :=Dh 88 Tryz.f88 WG [.b] (λx=>HW x.1) [J0] [] (by kernel_rfl) λx=>by simp only[HW,tm];kernel_rfl
def Gz(a0:List pZ):Option (Int×Unit):=
 br ((a0.length:Int)==0) (some (0,())) (iteP (0<=(acK .i64 ((a0.length:Int)-1))) ((a0[(acK .i64 ((a0.length:Int)-1)).toNat]?).bind λx1=>some (x1.epoch,())) none)
def QT[dp] :=Dh 172 Tryz.f172 QD Iv (λx=>Gz x.1) [] [] (by kernel_rfl) λx=>by simp only[Gz,tm];kernel_rfl
def D8(a0:mD)(a1:Int):Option (Int×Unit):=
 (CV a0).bind λy1=>br (!y1.1) (some (0,())) (br (a1==a0.primary) (some (1,())) ((DD a0.replicas a1).bind λy2=>br y2.1 (some (2,())) ((DD a0.witnesses a1).bind λy3=>br y3.1 (some (3,())) (some (0,())))))
def Ns[dp] :=Dh 128 Tryz.f128 aaF Iv (λx=>D8 x.1 x.2.1) [Jl,F5] [] (by kernel_rfl) λx=>by simp only[D8,tm];kernel_rfl
def CU(a0:o4)(a1:Int):Option (Bool×Unit):=
 (CY a0.version 1 2).bind λy1=>br (!y1.1) (some (false,())) ((CY a0.epoch 0 20).bind λy2=>br (!y2.1) (some (false,())) ((DU a0.log).bind λy3=>br (!y3.1) (some (false,())) ((DU a0.learned).bind λy4=>br (!y4.1) (some (false,())) ((CY a0.first 0 16).bind λy5=>br (!y5.1) (some (false,())) ((CY (acK .i64 (a0.first+(a0.log.length:Int))) 0 16).bind λy6=>br (!y6.1) (some (false,())) ((CY a0.commit 0 (acK .i64 (a0.first+(a0.log.length:Int)))).bind λy7=>br (!y7.1) (some (false,())) ((HW a0.config).bind λy8=>br y8.1 (br (a0.first==0) (br ((a0.log.length:Int)==0) (some ((a0.commit==0),())) (some (false,()))) (some (false,()))) (br (!a0.intact) (some (false,())) (br (decide (a0.epoch<a0.config.epoch)) (some (false,())) ((Gz a0.log).bind λy9=>br (decide (y9.1>a0.config.epoch)) (some (false,())) ((D8 a0.config a1).bind λy10=>br (y10.1==0) (some (false,())) (br (y10.1==3) (br (decide ((a0.log.length:Int)<=3)) (br ((a0.log.length:Int)==3) (some (true,())) (some ((a0.first==0),()))) (some (false,()))) (some ((a0.first==0),()))))))))))))))
def Oe[dp] :=Dh 171 Tryz.f171 TU [.b] (λx=>CU x.1 x.2.1) [DT,LL,Pn,QT,Ns] [] (by kernel_rfl) λx=>by simp only[CU,tm];kernel_rfl
def EY(a0:jw)(a1:Int):Option (mD×Bool×Unit):=
 (C7 a0).bind λy1=>br (!y1.1) (some ((⟨0,0,([]:List Int),([]:List Int)⟩:mD),false,())) ((CY a1 1 (a0.configs.length:Int)).bind λy2=>br (!y2.1) (some ((⟨0,0,([]:List Int),([]:List Int)⟩:mD),false,())) (iteP (0<=(acK .i64 (a1-1))) ((a0.configs[(acK .i64 (a1-1)).toNat]?).bind λx3=>(Gj x3).bind λy4=>some (y4.1,true,())) none))
def PX[dp] :=Dh 101 Tryz.f101 Xd VQ (λx=>EY x.1 x.2.1) [KU,DT,OM] [] (by kernel_rfl) λx=>by simp only[EY,tm];kernel_rfl
abbrev Mx:LX:=⟨⟨[J9,MH],[Jd],[],0,123⟩,[(.ret,⟨[NA],[],[],0,123⟩),(.ext 0,⟨[Ms],[],[],0,123⟩)],[],[1,3],[2]⟩
def CX(s:RQ×(MI×Unit)×Unit):Mx.R:=
 br (decide (s.1.2.1< (s.2.1.1.2.1.length:Int))) (iteP (0<=s.1.2.1) ((s.2.1.1.2.1[s.1.2.1.toNat]?).bind λx18=>(CU x18 s.1.2.1).bind λy19=>br (!y19.1) (some (.inr (.inl ((false,()),(()),(()))))) (br (decide (x18.epoch>(s.2.1.1.2.2.2.1.length:Int))) (some (.inr (.inl ((false,()),(()),(()))))) ((Gz x18.learned).bind λy20=>br (decide (y20.1>s.2.1.1.2.2.2.2.1)) (some (.inr (.inl ((false,()),(()),(()))))) ((EY (⟨s.2.1.1.2.2.2.1,s.2.1.1.2.2.2.2.1⟩:jw) x18.config.epoch).bind λy21=>(HW x18.config).bind λy22=>br (!y22.1) (br (!y21.2.1) (some (.inr (.inl ((false,()),(()),(()))))) ((Fa y21.1 x18.config).bind λy23=>br (!y23.1) (some (.inr (.inl ((false,()),(()),(()))))) (br (decide (x18.config.epoch>s.2.1.1.2.2.2.2.1)) (some (.inr (.inl ((false,()),(()),(()))))) (some (.inl (((),(acK .i64 (s.1.2.1+1)),()),s.2.1,(()))))))) (some (.inl (((),(acK .i64 (s.1.2.1+1)),()),s.2.1,(())))))))) none) (some (.inr (.inr (((),()),(()),(())))))
def Fy:=mu CX
def P6[dp] :=F6 Tryz.f56 [0] Mx CX [Oe,QT,PX,Pn,J0] [] (by kernel_rfl) λs=>by simp only[CX,tm];kernel_rfl
def CP(a0:oZ):Option (Bool×Unit):=
 (CY a0.now 0 999).bind λy1=>br (!y1.1) (some (false,())) (br (!((a0.servers.length:Int)==5)) (some (false,())) ((FU a0.sides).bind λy2=>br (!y2.1) (some (false,())) ((C7 a0.master).bind λy3=>br (!y3.1) (some (false,())) ((CY a0.masterUp 0 3).bind λy4=>br (!y4.1) (some (false,())) ((EM a0.lease).bind λy5=>br (!y5.1) (some (false,())) ((Dt a0.places).bind λy6=>br (!y6.1) (some (false,())) (br (decide (a0.lease.epoch>a0.master.activated)) (some (false,())) ((Fy (((),0,()),((a0.now,a0.servers,a0.sides,a0.master.configs,a0.master.activated,a0.masterUp,a0.lease.epoch,a0.lease.holder,a0.lease.ends,a0.places,()),()),(()))).bind λe24=>Sum.elim (λe24_0=>some e24_0.1) (λ_=>some (true,())) e24))))))))
def C2[dp] :=Dh 56 Tryz.f56 QY [.b] (λx=>CP x.1) [DT,N0,KU,Nq,Lc] [P6] (by kernel_rfl) λx=>by simp only[CP,tm];kernel_rfl
def Nk(a0:Int):Option (Bool×Bool×Bool×Unit):=
 br (a0==1) (some (true,false,false,())) (let j5 (p1:Bool):Option (Bool×Bool×Bool×Unit):=br p1 (some (true,false,false,())) (let j4 (p2:Bool):Option (Bool×Bool×Bool×Unit):=br p2 (some (true,false,true,())) (br (a0==4) (some (false,true,true,())) (br (a0==10) (some (false,false,true,())) (br (a0==11) (some (false,false,true,())) (br (a0==12) (some (true,true,true,())) (br (a0==16) (some (false,true,true,())) (some (false,false,false,())))))));br (a0==2) (j4 true) (br (a0==3) (j4 true) (j4 (a0==9))));br (a0==6) (j5 true) (br (a0==7) (j5 true) (br (a0==8) (j5 true) (br (a0==13) (j5 true) (br (a0==14) (j5 true) (j5 (a0==15)))))))
def XU[dp] :=Dh 287 Tryz.f287 UY [.b,.b,.b] (λx=>Nk x.1) [] [] (by kernel_rfl) λx=>by simp only[Nk,tm];kernel_rfl
def Ig(a0:ve):Option (Bool×Unit):=
 (CY a0.kind 1 16).bind λy1=>br (!y1.1) (some (false,())) ((CY a0.server 0 4).bind λy2=>br (!y2.1) (some (false,())) ((CY a0.other 0 4).bind λy3=>br (!y3.1) (some (false,())) ((CY a0.n 0 999).bind λy4=>br (!y4.1) (some (false,())) ((Nk a0.kind).bind λy5=>let j7:Option (Bool×Unit):=br (a0.kind==1) ((DM a0.op).bind λy6=>some (y6.1,())) (some (((a0.op.client==0)&&((a0.op.seq==0)&&((a0.op.kind==0)&&((a0.op.object==0)&&((a0.op.old==0)&&((a0.op.value==0)&&true)))))),()));br (!y5.1) (br (!(a0.server==0)) (some (false,())) (br (!y5.2.1) (br (!(a0.other==0)) (some (false,())) (br (!y5.2.2.1) (br (!(a0.n==0)) (some (false,())) (j7)) (j7))) (br (!y5.2.2.1) (br (!(a0.n==0)) (some (false,())) (j7)) (j7)))) (br (!y5.2.1) (br (!(a0.other==0)) (some (false,())) (br (!y5.2.2.1) (br (!(a0.n==0)) (some (false,())) (j7)) (j7))) (br (!y5.2.2.1) (br (!(a0.n==0)) (some (false,())) (j7)) (j7)))))))
def Sy[dp] :=Dh 270 Tryz.f270 [.ty (.st .event)] [.b] (λx=>Ig x.1) [DT,XU,Ld] [] (by kernel_rfl) λx=>by simp only[Ig,tm];kernel_rfl
def DG(a0:o4)(a1:Int):Option (Bool×Unit):=
 (CU a0 a1).bind λy1=>br y1.1 (br a0.up ((D8 a0.config a1).bind λy2=>br (y2.1==1) (some ((a0.epoch==a0.config.epoch),())) (some (false,()))) (some (false,()))) (some (false,()))
def Io[dp] :=Dh 72 Tryz.f72 TU [.b] (λx=>DG x.1 x.2.1) [Oe,Ns] [] (by kernel_rfl) λx=>by simp only[DG,tm];kernel_rfl
abbrev SW:LX:=⟨⟨[Ly,Ka,PE,M3],[],[],0,33⟩,[(.ret,⟨[Mt],[],[],0,33⟩),(.ext 0,⟨[YX],[],[],0,33⟩)],[],[0,1,2,7],[6]⟩
def Kn(s: (List pZ×Int×Int×Int×Unit)×Unit×Unit):SW.R:=
 br (decide (s.1.2.2.2.1< (s.1.1.length:Int))) (iteP (0<=s.1.2.2.2.1) ((s.1.1[s.1.2.2.2.1.toNat]?).bind λx5=>br (x5.op.client==s.1.2.1) (iteP (0<=s.1.2.2.2.1) ((s.1.1[s.1.2.2.2.1.toNat]?).bind λx6=>br (x6.op.seq==s.1.2.2.1) (some (.inr (.inl (s.1.2.2.2,(()),(()))))) (some (.inl ((s.1.1,s.1.2.1,s.1.2.2.1,(acK .i64 (s.1.2.2.2.1+1)),()),(()),(()))))) none) (some (.inl ((s.1.1,s.1.2.1,s.1.2.2.1,(acK .i64 (s.1.2.2.2.1+1)),()),(()),(()))))) none) (some (.inr (.inr (((),()),(()),(())))))
def WB:=mu Kn
def WO[dp] :=F6 Tryz.f139 [0] SW Kn [] [] (by kernel_rfl) λs=>by simp only[Kn,tm];kernel_rfl
def Ng(a0:List pZ)(a1:Int)(a2:Int):Option (Int×Unit):=
 (WB ((a0,a1,a2,0,()),(()),(()))).bind λe7=>Sum.elim (λe7_0=>some e7_0.1) (λ_=>some ((-1),())) e7
def Vq[dp] :=Dh 139 Tryz.f139 aaG Iv (λx=>Ng x.1 x.2.1 x.2.2.1) [] [WO] (by kernel_rfl) λx=>by simp only[Ng,tm];kernel_rfl
def LG:Option (mp×Unit):=
 some ((⟨([0,0,0]:List Int),([]:List mq)⟩:mp),())
def UM[dp] :=Dh 222 Tryz.f222 [] [.st .machine] (λ_=>LG) [] [] (by kernel_rfl) λx=>by simp only[LG,tm];kernel_rfl
def OC(a0:mp):Option (mp×Unit):=
 iteP ((([]:List Int)++a0.objects).length*8<=2 ^ 40) (iteP ((([]:List mq)++a0.sessions).length*32<=2 ^ 40) (some ((⟨(([]:List Int)++a0.objects),(([]:List mq)++a0.sessions)⟩:mp),())) none) none
def YQ[dp] :=Dh 223 Tryz.f223 [.ty (.st .machine)] [.st .machine] (λx=>OC x.1) [] [] (by kernel_rfl) λx=>by simp only[OC,tm];kernel_rfl
abbrev My:LX:=⟨⟨[J9,MH],[WI],[],0,69⟩,[(.ret,⟨[J9,NA],[WI],[],0,69⟩),(.ext 0,⟨[J9,Ms],[WI],[],0,69⟩)],[],[1,3],[1,2]⟩
def Ht(s:RQ×(abN×Unit)×Unit):My.R:=
 br (decide (s.1.2.1< (s.2.1.1.1.length:Int))) (iteP (0<=s.1.2.1) ((s.2.1.1.1[s.1.2.1.toNat]?).bind λx4=>(CY x4 0 9).bind λy5=>br (!y5.1) (some (.inr (.inl (((),false,()),s.2.1,(()))))) (some (.inl (((),(acK .i64 (s.1.2.1+1)),()),s.2.1,(()))))) none) (some (.inr (.inr (((),(),()),s.2.1,(())))))
def P0:=mu Ht
def P7[dp] :=F6 Tryz.f224 [0] My Ht [DT] [] (by kernel_rfl) λs=>by simp only[Ht,tm];kernel_rfl
abbrev Mz:LX:=⟨⟨[J9,LP],[WI],[],0,69⟩,[(.ret,⟨[J9,NA],[WI],[],0,69⟩),(.ext 2,⟨[J9,Ms],[WI],[],0,69⟩)],[],[1,4],[1,2]⟩
def Hu(s:RQ×(abN×Unit)×Unit):Mz.R:=
 br (decide (s.1.2.1< (s.2.1.1.2.1.length:Int))) (iteP (0<=s.1.2.1) ((s.2.1.1.2.1[s.1.2.1.toNat]?).bind λx10=>(CY x10.client 0 2).bind λy11=>br (!y11.1) (some (.inr (.inl (((),false,()),s.2.1,(()))))) ((CY x10.seq 1 99).bind λy12=>br (!y12.1) (some (.inr (.inl (((),false,()),s.2.1,(()))))) ((CY x10.result.value 0 9).bind λy13=>br (!y13.1) (some (.inr (.inl (((),false,()),s.2.1,(()))))) (br (decide (s.1.2.1>0)) (iteP (0<=(acK .i64 (s.1.2.1-1))) ((s.2.1.1.2.1[(acK .i64 (s.1.2.1-1)).toNat]?).bind λx14=>br (decide (x14.client≥x10.client)) (some (.inr (.inl (((),false,()),s.2.1,(()))))) (some (.inl (((),(acK .i64 (s.1.2.1+1)),()),s.2.1,(()))))) none) (some (.inl (((),(acK .i64 (s.1.2.1+1)),()),s.2.1,(())))))))) none) (some (.inr (.inr (((),(),()),s.2.1,(())))))
def Mm:=mu Hu
def P8[dp] :=F6 Tryz.f224 [1] Mz Hu [DT] [] (by kernel_rfl) λs=>by simp only[Hu,tm];kernel_rfl
def Gf(a0:mp):Option (Bool×Unit):=
 (P0 (((),0,()),((a0.objects,a0.sessions,()),()),(()))).bind λe6=>Sum.elim (λe6_0=>some e6_0.1.2) (λe6_1=>(Mm (((),0,()),e6_1.2.1,(()))).bind λe15=>Sum.elim (λe15_0=>some e15_0.1.2) (λe15_1=>some (((e15_1.2.1.1.1.length:Int)==3),())) e15) e6
def Nr[dp] :=Dh 224 Tryz.f224 [.ty (.st .machine)] [.b] (λx=>Gf x.1) [] [P7,P8] (by kernel_rfl) λx=>by simp only[Gf,tm];kernel_rfl
abbrev PO:LX:=⟨⟨[Ka,LQ,Rn,Mt],[WI,Ze],[],0,28⟩,[(.ret,⟨[PF,(5,.cl (.bl))],[Ze],[],0,28⟩),(.ext 0,⟨[PF,(5,.cl (.dead))],[Ze],[],0,28⟩)],[],[1,2,4,6],[4,5]⟩
def KO(s: (Int×Unit×Unit×Int×Unit)×(abN×(Int×Int×Bool×Int×Unit)×Unit)×Unit):PO.R:=
 br (decide (s.1.2.2.2.1< (s.2.1.1.2.1.length:Int))) (iteP (0<=s.1.2.2.2.1) ((s.2.1.1.2.1[s.1.2.2.2.1.toNat]?).bind λx9=>br (x9.client==s.1.1) (iteP (0<=s.1.2.2.2.1) ((s.2.1.1.2.1[s.1.2.2.2.1.toNat]?).bind λx10=>some (.inr (.inl (((),true,()),((x10.client,x10.seq,x10.result.done,x10.result.value,()),()),(()))))) none) (some (.inl ((s.1.1,(),(),(acK .i64 (s.1.2.2.2.1+1)),()),s.2.1,(()))))) none) (some (.inr (.inr (((),(),()),s.2.1.2,(())))))
def TT:=mu KO
def Ub[dp] :=F6 Tryz.f225 [0] PO KO [] [] (by kernel_rfl) λs=>by simp only[KO,tm];kernel_rfl
def K3(a0:mp)(a1:Int):Option (mq×Bool×Unit):=
 (TT ((a1,(),(),0,()),((a0.objects,a0.sessions,()),(0,0,false,0,()),()),(()))).bind λe11=>Sum.elim (λe11_0=>some ((⟨e11_0.2.1.1.1,e11_0.2.1.1.2.1,(⟨e11_0.2.1.1.2.2.1,e11_0.2.1.1.2.2.2.1⟩:Result)⟩:mq),e11_0.1.2)) (λ_=>some ((⟨0,0,(⟨false,0⟩:Result)⟩:mq),false,())) e11
def Vv[dp] :=Dh 225 Tryz.f225 aaH [.st .session,.b] (λx=>K3 x.1 x.2.1) [] [Ub] (by kernel_rfl) λx=>by simp only[K3,tm];kernel_rfl
abbrev QE:LX:=⟨⟨[Rp,Rn,(5,.cl (.ptr 2 0)),YY,PG,(11,.cl (.ptr 4 0)),OX],[abo,[.em,.em],Xo,Xp,Xo],aae,0,127⟩,[(.ext 0,⟨[Rp,Rn,(5,.cl (.ptr 2 0)),YY,PG,(11,.cl (.ptr 4 0)),OX],[abo,[.em,.em],Xo,Xp,Xo],aae,0,127⟩)],[],[3,4,5,7,9,11,12],[3,4,5,7,9,11,12]⟩
def Iz(s: (Unit×Unit×Unit×Unit×Bool×Unit×Int×Unit)×((Int×Int×Int×Int×Int×Int×Unit)×Zc×(Bool×Int×Unit)×Zc×(Bool×Int×Unit)×Unit)×List Int×List mq×Unit):QE.R:=
 br (decide (s.1.2.2.2.2.2.2.1< (s.2.2.2.1.length:Int))) (iteP (0<=s.1.2.2.2.2.2.2.1/\s.1.2.2.2.2.2.2.1< (s.2.2.2.1.length:Int)) ((s.2.2.2.1[s.1.2.2.2.2.2.2.1.toNat]?).bind λx22=>br (decide (x22.client<s.2.1.1.1)) (some (.inl (((),(),(),(),s.1.2.2.2.2.1,(),(acK .i64 (s.1.2.2.2.2.2.2.1+1)),()),s.2))) (some (.inr s))) none) (some (.inr s))
def LO:=mu Iz
def U1[dp] :=F6 Tryz.f141 [0] QE Iz [] [] (by kernel_rfl) λs=>by simp only[Iz,tm];kernel_rfl
def Kr(a0:mp)(a1:Op):Option (mp×Result×Bool×Unit):=
 (OC a0).bind λy1=>(Gf a0).bind λy2=>br (!y2.1) (some (y1.1,(⟨false,0⟩:Result),false,())) ((DM a1).bind λy3=>br (!y3.1) (some (y1.1,(⟨false,0⟩:Result),false,())) ((K3 a0 a1.client).bind λy4=>let j45:Option (mp×Result×Bool×Unit):=let j44:Option (mp×Result×Bool×Unit):=iteP (0<=a1.object) ((a0.objects[a1.object.toNat]?).bind λx5=>br (a1.kind==1) (iteP (0<=a1.object/\a1.object< (y1.1.objects.length:Int)) ((y1.1.objects[a1.object.toNat]?).bind λ_=>(LO (((),(),(),(),y4.2.1,(),0,()),((a1.client,a1.seq,a1.kind,a1.object,a1.old,a1.value,()),((),(),()),(false,0,()),((),(),()),(true,x5,()),()),(y1.1.objects.set a1.object.toNat a1.value),y1.1.sessions,())).bind λe23=>iteP (0<=e23.1.2.2.2.2.2.2.1/\e23.1.2.2.2.2.2.2.1<=(e23.2.2.2.1.length:Int)/\(e23.2.2.2.1.length:Int)<=((e23.2.2.2.1.length:Nat):Int)) (br e23.1.2.2.2.2.1 (iteP (0<=(acK .i64 (e23.1.2.2.2.2.2.2.1+1))/\(acK .i64 (e23.1.2.2.2.2.2.2.1+1))<=(e23.2.2.2.1.length:Int)/\(e23.2.2.2.1.length:Int)<=((e23.2.2.2.1.length:Nat):Int)) (iteP (0<=(0:Int)/\(0:Int)<=e23.1.2.2.2.2.2.2.1/\e23.1.2.2.2.2.2.2.1<=((e23.2.2.2.1.length:Nat):Int)) (iteP ((0+(0:Int).toNat)+(e23.1.2.2.2.2.2.2.1.toNat-(0:Int).toNat)<=e23.2.2.2.1.length) (iteP ((([]:List mq)++((e23.2.2.2.1.drop (0+(0:Int).toNat)).take (e23.1.2.2.2.2.2.2.1.toNat-(0:Int).toNat))).length*32<=2 ^ 40) (iteP (((([]:List mq)++((e23.2.2.2.1.drop (0+(0:Int).toNat)).take (e23.1.2.2.2.2.2.2.1.toNat-(0:Int).toNat)))++([(⟨e23.2.1.1.1,e23.2.1.1.2.1,(⟨e23.2.1.2.2.2.2.1.1,e23.2.1.2.2.2.2.1.2.1⟩:Result)⟩:mq)]:List mq)).length*32<=2 ^ 40) (iteP ((0+(acK .i64 (e23.1.2.2.2.2.2.2.1+1)).toNat)+((e23.2.2.2.1.length:Int).toNat-(acK .i64 (e23.1.2.2.2.2.2.2.1+1)).toNat)<=e23.2.2.2.1.length) (iteP ((((([]:List mq)++((e23.2.2.2.1.drop (0+(0:Int).toNat)).take (e23.1.2.2.2.2.2.2.1.toNat-(0:Int).toNat)))++([(⟨e23.2.1.1.1,e23.2.1.1.2.1,(⟨e23.2.1.2.2.2.2.1.1,e23.2.1.2.2.2.2.1.2.1⟩:Result)⟩:mq)]:List mq))++((e23.2.2.2.1.drop (0+(acK .i64 (e23.1.2.2.2.2.2.2.1+1)).toNat)).take ((e23.2.2.2.1.length:Int).toNat-(acK .i64 (e23.1.2.2.2.2.2.2.1+1)).toNat))).length*32<=2 ^ 40) (some ((⟨e23.2.2.1,(((([]:List mq)++((e23.2.2.2.1.drop (0+(0:Int).toNat)).take (e23.1.2.2.2.2.2.2.1.toNat-(0:Int).toNat)))++([(⟨e23.2.1.1.1,e23.2.1.1.2.1,(⟨e23.2.1.2.2.2.2.1.1,e23.2.1.2.2.2.2.1.2.1⟩:Result)⟩:mq)]:List mq))++((e23.2.2.2.1.drop (0+(acK .i64 (e23.1.2.2.2.2.2.2.1+1)).toNat)).take ((e23.2.2.2.1.length:Int).toNat-(acK .i64 (e23.1.2.2.2.2.2.2.1+1)).toNat)))⟩:mp),(⟨e23.2.1.2.2.2.2.1.1,e23.2.1.2.2.2.2.1.2.1⟩:Result),true,())) none) none) none) none) none) none) none) (iteP (0<=(0:Int)/\(0:Int)<=e23.1.2.2.2.2.2.2.1/\e23.1.2.2.2.2.2.2.1<=((e23.2.2.2.1.length:Nat):Int)) (iteP ((0+(0:Int).toNat)+(e23.1.2.2.2.2.2.2.1.toNat-(0:Int).toNat)<=e23.2.2.2.1.length) (iteP ((([]:List mq)++((e23.2.2.2.1.drop (0+(0:Int).toNat)).take (e23.1.2.2.2.2.2.2.1.toNat-(0:Int).toNat))).length*32<=2 ^ 40) (iteP (((([]:List mq)++((e23.2.2.2.1.drop (0+(0:Int).toNat)).take (e23.1.2.2.2.2.2.2.1.toNat-(0:Int).toNat)))++([(⟨e23.2.1.1.1,e23.2.1.1.2.1,(⟨e23.2.1.2.2.2.2.1.1,e23.2.1.2.2.2.2.1.2.1⟩:Result)⟩:mq)]:List mq)).length*32<=2 ^ 40) (iteP ((0+e23.1.2.2.2.2.2.2.1.toNat)+((e23.2.2.2.1.length:Int).toNat-e23.1.2.2.2.2.2.2.1.toNat)<=e23.2.2.2.1.length) (iteP ((((([]:List mq)++((e23.2.2.2.1.drop (0+(0:Int).toNat)).take (e23.1.2.2.2.2.2.2.1.toNat-(0:Int).toNat)))++([(⟨e23.2.1.1.1,e23.2.1.1.2.1,(⟨e23.2.1.2.2.2.2.1.1,e23.2.1.2.2.2.2.1.2.1⟩:Result)⟩:mq)]:List mq))++((e23.2.2.2.1.drop (0+e23.1.2.2.2.2.2.2.1.toNat)).take ((e23.2.2.2.1.length:Int).toNat-e23.1.2.2.2.2.2.2.1.toNat))).length*32<=2 ^ 40) (some ((⟨e23.2.2.1,(((([]:List mq)++((e23.2.2.2.1.drop (0+(0:Int).toNat)).take (e23.1.2.2.2.2.2.2.1.toNat-(0:Int).toNat)))++([(⟨e23.2.1.1.1,e23.2.1.1.2.1,(⟨e23.2.1.2.2.2.2.1.1,e23.2.1.2.2.2.2.1.2.1⟩:Result)⟩:mq)]:List mq))++((e23.2.2.2.1.drop (0+e23.1.2.2.2.2.2.2.1.toNat)).take ((e23.2.2.2.1.length:Int).toNat-e23.1.2.2.2.2.2.2.1.toNat)))⟩:mp),(⟨e23.2.1.2.2.2.2.1.1,e23.2.1.2.2.2.2.1.2.1⟩:Result),true,())) none) none) none) none) none) none)) none) none) (let j43 (p26:List Int):Option (mp×Result×Bool×Unit):=(LO (((),(),(),(),y4.2.1,(),0,()),((a1.client,a1.seq,a1.kind,a1.object,a1.old,a1.value,()),((),(),()),(false,0,()),((),(),()),((x5==a1.old),x5,()),()),p26,y1.1.sessions,())).bind λe42=>iteP (0<=e42.1.2.2.2.2.2.2.1/\e42.1.2.2.2.2.2.2.1<=(e42.2.2.2.1.length:Int)/\(e42.2.2.2.1.length:Int)<=((e42.2.2.2.1.length:Nat):Int)) (br e42.1.2.2.2.2.1 (iteP (0<=(acK .i64 (e42.1.2.2.2.2.2.2.1+1))/\(acK .i64 (e42.1.2.2.2.2.2.2.1+1))<=(e42.2.2.2.1.length:Int)/\(e42.2.2.2.1.length:Int)<=((e42.2.2.2.1.length:Nat):Int)) (iteP (0<=(0:Int)/\(0:Int)<=e42.1.2.2.2.2.2.2.1/\e42.1.2.2.2.2.2.2.1<=((e42.2.2.2.1.length:Nat):Int)) (iteP ((0+(0:Int).toNat)+(e42.1.2.2.2.2.2.2.1.toNat-(0:Int).toNat)<=e42.2.2.2.1.length) (iteP ((([]:List mq)++((e42.2.2.2.1.drop (0+(0:Int).toNat)).take (e42.1.2.2.2.2.2.2.1.toNat-(0:Int).toNat))).length*32<=2 ^ 40) (iteP (((([]:List mq)++((e42.2.2.2.1.drop (0+(0:Int).toNat)).take (e42.1.2.2.2.2.2.2.1.toNat-(0:Int).toNat)))++([(⟨e42.2.1.1.1,e42.2.1.1.2.1,(⟨e42.2.1.2.2.2.2.1.1,e42.2.1.2.2.2.2.1.2.1⟩:Result)⟩:mq)]:List mq)).length*32<=2 ^ 40) (iteP ((0+(acK .i64 (e42.1.2.2.2.2.2.2.1+1)).toNat)+((e42.2.2.2.1.length:Int).toNat-(acK .i64 (e42.1.2.2.2.2.2.2.1+1)).toNat)<=e42.2.2.2.1.length) (iteP ((((([]:List mq)++((e42.2.2.2.1.drop (0+(0:Int).toNat)).take (e42.1.2.2.2.2.2.2.1.toNat-(0:Int).toNat)))++([(⟨e42.2.1.1.1,e42.2.1.1.2.1,(⟨e42.2.1.2.2.2.2.1.1,e42.2.1.2.2.2.2.1.2.1⟩:Result)⟩:mq)]:List mq))++((e42.2.2.2.1.drop (0+(acK .i64 (e42.1.2.2.2.2.2.2.1+1)).toNat)).take ((e42.2.2.2.1.length:Int).toNat-(acK .i64 (e42.1.2.2.2.2.2.2.1+1)).toNat))).length*32<=2 ^ 40) (some ((⟨e42.2.2.1,(((([]:List mq)++((e42.2.2.2.1.drop (0+(0:Int).toNat)).take (e42.1.2.2.2.2.2.2.1.toNat-(0:Int).toNat)))++([(⟨e42.2.1.1.1,e42.2.1.1.2.1,(⟨e42.2.1.2.2.2.2.1.1,e42.2.1.2.2.2.2.1.2.1⟩:Result)⟩:mq)]:List mq))++((e42.2.2.2.1.drop (0+(acK .i64 (e42.1.2.2.2.2.2.2.1+1)).toNat)).take ((e42.2.2.2.1.length:Int).toNat-(acK .i64 (e42.1.2.2.2.2.2.2.1+1)).toNat)))⟩:mp),(⟨e42.2.1.2.2.2.2.1.1,e42.2.1.2.2.2.2.1.2.1⟩:Result),true,())) none) none) none) none) none) none) none) (iteP (0<=(0:Int)/\(0:Int)<=e42.1.2.2.2.2.2.2.1/\e42.1.2.2.2.2.2.2.1<=((e42.2.2.2.1.length:Nat):Int)) (iteP ((0+(0:Int).toNat)+(e42.1.2.2.2.2.2.2.1.toNat-(0:Int).toNat)<=e42.2.2.2.1.length) (iteP ((([]:List mq)++((e42.2.2.2.1.drop (0+(0:Int).toNat)).take (e42.1.2.2.2.2.2.2.1.toNat-(0:Int).toNat))).length*32<=2 ^ 40) (iteP (((([]:List mq)++((e42.2.2.2.1.drop (0+(0:Int).toNat)).take (e42.1.2.2.2.2.2.2.1.toNat-(0:Int).toNat)))++([(⟨e42.2.1.1.1,e42.2.1.1.2.1,(⟨e42.2.1.2.2.2.2.1.1,e42.2.1.2.2.2.2.1.2.1⟩:Result)⟩:mq)]:List mq)).length*32<=2 ^ 40) (iteP ((0+e42.1.2.2.2.2.2.2.1.toNat)+((e42.2.2.2.1.length:Int).toNat-e42.1.2.2.2.2.2.2.1.toNat)<=e42.2.2.2.1.length) (iteP ((((([]:List mq)++((e42.2.2.2.1.drop (0+(0:Int).toNat)).take (e42.1.2.2.2.2.2.2.1.toNat-(0:Int).toNat)))++([(⟨e42.2.1.1.1,e42.2.1.1.2.1,(⟨e42.2.1.2.2.2.2.1.1,e42.2.1.2.2.2.2.1.2.1⟩:Result)⟩:mq)]:List mq))++((e42.2.2.2.1.drop (0+e42.1.2.2.2.2.2.2.1.toNat)).take ((e42.2.2.2.1.length:Int).toNat-e42.1.2.2.2.2.2.2.1.toNat))).length*32<=2 ^ 40) (some ((⟨e42.2.2.1,(((([]:List mq)++((e42.2.2.2.1.drop (0+(0:Int).toNat)).take (e42.1.2.2.2.2.2.2.1.toNat-(0:Int).toNat)))++([(⟨e42.2.1.1.1,e42.2.1.1.2.1,(⟨e42.2.1.2.2.2.2.1.1,e42.2.1.2.2.2.2.1.2.1⟩:Result)⟩:mq)]:List mq))++((e42.2.2.2.1.drop (0+e42.1.2.2.2.2.2.2.1.toNat)).take ((e42.2.2.2.1.length:Int).toNat-e42.1.2.2.2.2.2.2.1.toNat)))⟩:mp),(⟨e42.2.1.2.2.2.2.1.1,e42.2.1.2.2.2.2.1.2.1⟩:Result),true,())) none) none) none) none) none) none)) none;br (x5==a1.old) (iteP (0<=a1.object/\a1.object< (y1.1.objects.length:Int)) ((y1.1.objects[a1.object.toNat]?).bind λ_=>j43 (y1.1.objects.set a1.object.toNat a1.value)) none) (j43 y1.1.objects))) none;br y4.2.1 (br (decide (y4.1.seq>a1.seq)) (some (y1.1,(⟨false,0⟩:Result),false,())) (j44)) (j44);br y4.2.1 (br (y4.1.seq==a1.seq) (some (y1.1,y4.1.result,true,())) (j45)) (j45)))
def QO[dp] :=Dh 141 Tryz.f141 [.ty (.st .machine),.ty (.st .op)] [.st .machine,.st .result,.b] (λx=>Kr x.1 x.2.1) [YQ,Nr,Ld,Vv] [U1] (by kernel_rfl) λx=>by simp only[Kr,tm];kernel_rfl
abbrev PM:LX:=⟨⟨[Ly,LQ,Rn,Mu],[[.em,.em],Xp],aae,0,29⟩,[(.ext 0,⟨[LQ,Rn],[[.em,.em],Xp],aae,0,29⟩)],[],[0,2,4,5],[2,4]⟩
def KM(s: (List pZ×Unit×Unit×Int×Unit)×(Zc×Zc×Unit)×List Int×List mq×Unit):PM.R:=
 br (decide (s.1.2.2.2.1< (s.1.1.length:Int))) (iteP (0<=s.1.2.2.2.1) ((s.1.1[s.1.2.2.2.1.toNat]?).bind λx7=>(Kr (⟨s.2.2.1,s.2.2.2.1⟩:mp) x7.op).bind λy8=>some (.inl ((s.1.1,(),(),(acK .i64 (s.1.2.2.2.1+1)),()),(((),(),()),((),(),()),()),y8.1.objects,y8.1.sessions,()))) none) (some (.inr (((),(),()),s.2)))
def TQ:=mu KM
def T9[dp] :=F6 Tryz.f140 [0] PM KM [QO] [] (by kernel_rfl) λs=>by simp only[KM,tm];kernel_rfl
def Ij(a0:List pZ):Option (mp×Bool×Unit):=
 (LG).bind λy1=>(DU a0).bind λy2=>br (!y2.1) (some ((⟨([]:List Int),([]:List mq)⟩:mp),false,())) ((TQ ((a0,(),(),0,()),(((),(),()),((),(),()),()),y1.1.objects,y1.1.sessions,())).bind λe9=>some ((⟨e9.2.2.1,e9.2.2.2.1⟩:mp),true,()))
def OL[dp] :=Dh 140 Tryz.f140 QD [.st .machine,.b] (λx=>Ij x.1) [UM,LL] [T9] (by kernel_rfl) λx=>by simp only[Ij,tm];kernel_rfl
def GS(a0:Op):Option (Bool×Unit):=
 some ((a0.kind==2),())
def Pw[dp] :=Dh 142 Tryz.f142 VI [.b] (λx=>GS x.1) [] [] (by kernel_rfl) λx=>by simp only[GS,tm];kernel_rfl
def FF(a0:oZ)(a1:Int):Option (Bool×Unit):=
 (CP a0).bind λy1=>br y1.1 ((CY a1 0 4).bind λy2=>br y2.1 (iteP (0<=a1) ((a0.servers[a1.toNat]?).bind λx3=>(DG x3 a1).bind λy4=>some (y4.1,())) none) (some (false,()))) (some (false,()))
def LM[dp] :=Dh 197 Tryz.f197 Ki [.b] (λx=>FF x.1 x.2.1) [C2,DT,Io] [] (by kernel_rfl) λx=>by simp only[FF,tm];kernel_rfl
abbrev NH:LX:=⟨⟨[M2,PD,N5,Mt],[],F0,0,34⟩,[(.ext 0,⟨[PD,N5],[],F0,0,34⟩)],[],[0,1,5,6],[1,5]⟩
def Ga(s:abM×Unit×List Int×Unit):NH.R:=
 br (decide (s.1.2.2.2.1< (s.1.1.length:Int))) (iteP (0<=s.1.2.2.2.1) ((s.1.1[s.1.2.2.2.1.toNat]?).bind λx5=>(G2 s.2.2.1 x5).bind λy6=>some (.inl ((s.1.1,s.1.2.1,(),(acK .i64 (s.1.2.2.2.1+1)),()),(()),y6.1,()))) none) (some (.inr ((s.1.2.1,(),()),(()),s.2.2)))
def Nx:=mu Ga
def Q5[dp] :=F6 Tryz.f129 [0] NH Ga [N2] [] (by kernel_rfl) λs=>by simp only[Ga,tm];kernel_rfl
abbrev NI:LX:=⟨⟨[PD,N5,M3],[],F0,0,34⟩,[(.ext 2,⟨[N5],[],F0,0,34⟩)],[],[1,5,7],[5]⟩
def Gb(s:abe×Unit×List Int×Unit):NI.R:=
 br (decide (s.1.2.2.1< (s.1.1.length:Int))) (iteP (0<=s.1.2.2.1) ((s.1.1[s.1.2.2.1.toNat]?).bind λx11=>(G2 s.2.2.1 x11).bind λy12=>some (.inl ((s.1.1,(),(acK .i64 (s.1.2.2.1+1)),()),(()),y12.1,()))) none) (some (.inr (((),()),(()),s.2.2)))
def Ny:=mu Gb
def Q6[dp] :=F6 Tryz.f129 [1] NI Gb [N2] [] (by kernel_rfl) λs=>by simp only[Gb,tm];kernel_rfl
def Hi(a0:List Int)(a1:List Int):Option ((List Int)×Unit):=
 (Nx ((a0,a1,(),0,()),(()),([]:List Int),())).bind λe7=>(Ny ((e7.1.1,(),0,()),(()),e7.2.2)).bind λe13=>some e13.2.2
def SD[dp] :=Dh 129 Tryz.f129 UZ IT (λx=>Hi x.1 x.2.1) [] [Q5,Q6] (by kernel_rfl) λx=>by simp only[Hi,tm];kernel_rfl
def DN(a0:mD):Option ((List Int)×Unit):=
 (CV a0).bind λy1=>br (!y1.1) (some (([]:List Int),())) ((Hi a0.replicas a0.witnesses).bind λy2=>some (y2.1,()))
def Ip[dp] :=Dh 40 Tryz.f40 WG IT (λx=>DN x.1) [Jl,SD] [] (by kernel_rfl) λx=>by simp only[DN,tm];kernel_rfl
abbrev Om:LX:=⟨⟨[LQ,Mu,Xe,M3],[Jd],F0,0,37⟩,[(.ext 0,⟨[Mu],[],[],0,37⟩)],[],[2,5,6,7],[5]⟩
def Jh(s:abf×(MI×Unit)×List Int×Unit):Om.R:=
 br (decide (s.1.2.2.2.1< (s.2.2.1.length:Int))) (iteP (0<=s.1.2.2.2.1/\s.1.2.2.2.1< (s.2.2.1.length:Int)) ((s.2.2.1[s.1.2.2.2.1.toNat]?).bind λx17=>iteP (0<=x17) ((s.2.1.1.2.1[x17.toNat]?).bind λx18=>some (.inl (((),(if x18.version<s.1.2.1 then x18.version else s.1.2.1),(),(acK .i64 (s.1.2.2.2.1+1)),()),s.2))) none) none) (some (.inr ((s.1.2.1,()),(()),(()))))
def RP:=mu Jh
def RY[dp] :=F6 Tryz.f143 [0] Om Jh [] [] (by kernel_rfl) λs=>by simp only[Jh,tm];kernel_rfl
def I2(a0:oZ)(a1:Int):Option (Int×Unit):=
 (FF a0 a1).bind λy1=>br (!y1.1) (some (0,())) (iteP (0<=a1) ((a0.servers[a1.toNat]?).bind λx2=>(DN x2.config).bind λy3=>(RP (((),2,(),0,()),((a0.now,a0.servers,a0.sides,a0.master.configs,a0.master.activated,a0.masterUp,a0.lease.epoch,a0.lease.holder,a0.lease.ends,a0.places,()),()),y3.1,())).bind λe19=>some e19.1) none)
def TK[dp] :=Dh 143 Tryz.f143 Ki Iv (λx=>I2 x.1 x.2.1) [LM,Ip] [RY] (by kernel_rfl) λx=>by simp only[I2,tm];kernel_rfl
def GJ(a0:oZ)(a1:Int)(a2:Op):Option (oZ×Int×Unit):=
 (DF a0).bind λy1=>(CP a0).bind λy2=>br (!y2.1) (some (y1.1,1,())) ((CY a1 0 4).bind λy3=>br (!y3.1) (some (y1.1,1,())) ((DM a2).bind λy4=>br (!y4.1) (some (y1.1,1,())) (iteP (0<=a1) ((a0.servers[a1.toNat]?).bind λx5=>br (!x5.up) (some (y1.1,2,())) ((DG x5 a1).bind λy6=>br (!y6.1) (some (y1.1,3,())) ((Ng x5.log a2.client a2.seq).bind λy7=>let j18:Option (oZ×Int×Unit):=(Ij x5.log).bind λy9=>(Kr y9.1 a2).bind λy10=>br (!y10.2.2.1) (some (y1.1,11,())) ((GS a2).bind λy11=>let j17:Option (oZ×Int×Unit):=iteP (0<=a1/\a1< (y1.1.servers.length:Int)) ((y1.1.servers[a1.toNat]?).bind λx13=>(y1.1.servers[a1.toNat]?).bind λx14=>iteP ((0:Nat)=0) (iteP (x14.log.length<x13.log.length) none (iteP ((x14.log.take x13.log.length++([(⟨x5.epoch,a2⟩:pZ)]:List pZ)).length*56<=2 ^ 40) (iteP (0<=a1/\a1< (y1.1.servers.length:Int)) ((y1.1.servers[a1.toNat]?).bind λx15=>iteP (a1.toNat=a1.toNat) (some ((⟨y1.1.now,(y1.1.servers.set a1.toNat (⟨x15.up,x15.intact,x15.version,x15.epoch,x15.config,x15.first,(x14.log.take x13.log.length++([(⟨x5.epoch,a2⟩:pZ)]:List pZ)),x15.commit,x15.learned⟩:o4)),y1.1.sides,y1.1.master,y1.1.masterUp,y1.1.lease,y1.1.places⟩:oZ),0,())) none) none) none)) none) none;br y11.1 ((I2 a0 a1).bind λy12=>br (decide (y12.1<2)) (some (y1.1,6,())) (br ((x5.log.length:Int)==16) (some (y1.1,5,())) (j17))) (br ((x5.log.length:Int)==16) (some (y1.1,5,())) (j17)));br (decide (y7.1≥0)) (iteP (0<=y7.1) ((x5.log[y7.1.toNat]?).bind λx8=>br (!((x8.op.client==a2.client)&&((x8.op.seq==a2.seq)&&((x8.op.kind==a2.kind)&&((x8.op.object==a2.object)&&((x8.op.old==a2.old)&&((x8.op.value==a2.value)&&true))))))) (some (y1.1,11,())) (br (decide (y7.1≥0)) (some (y1.1,0,())) (j18))) none) (br (decide (y7.1≥0)) (some (y1.1,0,())) (j18))))) none)))
def Qu[dp] :=Dh 43 Tryz.f43 aaI M4 (λx=>GJ x.1 x.2.1 x.2.2.1) [Ed,C2,DT,Ld,Io,Vq,OL,QO,Pw,TK] [] (by kernel_rfl) λx=>by simp only[GJ,tm,-eq_self];kernel_rfl
def EG(a0:List Int)(a1:Int)(a2:Int):Option (Bool×Unit):=
 (FU a0).bind λy1=>br y1.1 ((CY a1 0 4).bind λy2=>br y2.1 ((CY a2 0 4).bind λy3=>br y3.1 (iteP (0<=a1) ((a0[a1.toNat]?).bind λx4=>iteP (0<=a2) ((a0[a2.toNat]?).bind λx5=>some ((x4==x5),())) none) none) (some (false,()))) (some (false,()))) (some (false,()))
def KB[dp] :=Dh 182 Tryz.f182 YV [.b] (λx=>EG x.1 x.2.1 x.2.2.1) [N0,DT] [] (by kernel_rfl) λx=>by simp only[EG,tm];kernel_rfl
def FW(a0:oZ)(a1:Int)(a2:Int):Option (Bool×Unit):=
 iteP (0<=a2) ((a0.servers[a2.toNat]?).bind λx1=>(EG a0.sides a1 a2).bind λy2=>br y2.1 (br x1.up (iteP (0<=a1) ((a0.servers[a1.toNat]?).bind λx3=>br (x1.epoch==x3.epoch) (iteP (0<=a1) ((a0.servers[a1.toNat]?).bind λx4=>br (decide (x1.commit<=(x4.log.length:Int))) (iteP (0<=a1) ((a0.servers[a1.toNat]?).bind λx5=>(Fa x1.config x5.config).bind λy6=>some (y6.1,())) none) (some (false,()))) none) (some (false,()))) none) (some (false,()))) (some (false,()))) none
def SE[dp] :=Dh 73 Tryz.f73 P1 [.b] (λx=>FW x.1 x.2.1 x.2.2.1) [KB,J0] [] (by kernel_rfl) λx=>by simp only[FW,tm];kernel_rfl
def Ph(a0:List pZ):Option (Int×(List pZ)×Unit):=
 (DU a0).bind λy1=>br (!y1.1) (some (0,([]:List pZ),())) (iteP (0<=(if (acK .i64 ((a0.length:Int)-3))>0 then (acK .i64 ((a0.length:Int)-3)) else 0)/\(if (acK .i64 ((a0.length:Int)-3))>0 then (acK .i64 ((a0.length:Int)-3)) else 0)<=(a0.length:Int)/\(a0.length:Int)<=(a0.length:Int)) ((EF ((a0.drop (if (acK .i64 ((a0.length:Int)-3))>0 then (acK .i64 ((a0.length:Int)-3)) else 0).toNat).take ((a0.length:Int).toNat-(if (acK .i64 ((a0.length:Int)-3))>0 then (acK .i64 ((a0.length:Int)-3)) else 0).toNat))).bind λy2=>some ((if (acK .i64 ((a0.length:Int)-3))>0 then (acK .i64 ((a0.length:Int)-3)) else 0),y2.1,())) none)
def XO[dp] :=Dh 265 Tryz.f265 QD Zd (λx=>Ph x.1) [LL,I5] [] (by kernel_rfl) λx=>by simp only[Ph,tm];kernel_rfl
def OB(a0:List pZ):Option (Int×(List pZ)×Unit):=
 (Ph a0).bind λy1=>some (y1.1,y1.2.1,())
def YO[dp] :=Dh 243 Tryz.f243 QD Zd (λx=>OB x.1) [XO] [] (by kernel_rfl) λx=>by simp only[OB,tm];kernel_rfl
def Ii(a0:oZ)(a1:Int)(a2:Int):Option (oZ×Bool×Unit):=
 (DF a0).bind λy1=>(FF a0 a1).bind λy2=>br (!y2.1) (some (y1.1,false,())) (iteP (0<=a1) ((a0.servers[a1.toNat]?).bind λx3=>(DN x3.config).bind λy4=>(DD y4.1 a2).bind λy5=>br (!y5.1) (some (y1.1,false,())) ((FW a0 a1 a2).bind λy6=>br (!y6.1) (some (y1.1,false,())) (iteP (0<=a1) ((a0.servers[a1.toNat]?).bind λx7=>iteP (0<=a1) ((a0.servers[a1.toNat]?).bind λx8=>(D8 x8.config a2).bind λy9=>br (y9.1==3) ((OB x7.log).bind λy10=>iteP (0<=a2/\a2< (y1.1.servers.length:Int)) (iteP (0<=a2/\a2< (y1.1.servers.length:Int)) ((y1.1.servers[a2.toNat]?).bind λx11=>let z12:=y1.1.servers.set a2.toNat (⟨x11.up,x11.intact,x11.version,x11.epoch,x11.config,y10.1,x11.log,x11.commit,x11.learned⟩:o4);(z12[a2.toNat]?).bind λx13=>some ((⟨y1.1.now,(z12.set a2.toNat (⟨x13.up,x13.intact,x13.version,x13.epoch,x13.config,x13.first,y10.2.1,x13.commit,x13.learned⟩:o4)),y1.1.sides,y1.1.master,y1.1.masterUp,y1.1.lease,y1.1.places⟩:oZ),true,())) none) none) ((EF x7.log).bind λy15=>iteP (0<=a2/\a2< (y1.1.servers.length:Int)) ((y1.1.servers[a2.toNat]?).bind λx16=>some ((⟨y1.1.now,(y1.1.servers.set a2.toNat (⟨x16.up,x16.intact,x16.version,x16.epoch,x16.config,x16.first,y15.1,x16.commit,x16.learned⟩:o4)),y1.1.sides,y1.1.master,y1.1.masterUp,y1.1.lease,y1.1.places⟩:oZ),true,())) none)) none) none))) none)
def SB[dp] :=Dh 198 Tryz.f198 P1 [.st .cluster,.b] (λx=>Ii x.1 x.2.1 x.2.2.1) [Ed,LM,Ip,F5,SE,Ns,YO,I5] [] (by kernel_rfl) λx=>by simp only[Ii,tm];kernel_rfl
abbrev Kd:LX:=⟨⟨[Ka,PF,OY,YZ,VL,(9,.cl (.int .i64))],[Li,WJ],Zm,0,74⟩,[(.ext 0,⟨[Ka,PF,OY,YZ,VL],[Li,WJ],Zm,0,74⟩)],[],[1,4,6,7,8,9],[1,4,6,7,8]⟩
def H1(s:Y7×(LR×LR×Unit)×List Int×List o4×List Int×List mD×List tc×Unit):Kd.R:=
 br (decide (s.1.2.2.2.2.2.1< (s.2.2.1.length:Int))) (iteP (0<=s.1.2.2.2.2.2.1/\s.1.2.2.2.2.2.1< (s.2.2.1.length:Int)) ((s.2.2.1[s.1.2.2.2.2.2.1.toNat]?).bind λx25=>(Ii (⟨s.2.1.2.1.1,s.2.2.2.1,s.2.2.2.2.1,(⟨s.2.2.2.2.2.1,s.2.1.2.1.2.2.2.2.1⟩:jw),s.2.1.2.1.2.2.2.2.2.1,(⟨s.2.1.2.1.2.2.2.2.2.2.1,s.2.1.2.1.2.2.2.2.2.2.2.1,s.2.1.2.1.2.2.2.2.2.2.2.2.1⟩:s7),s.2.2.2.2.2.2.1⟩:oZ) s.1.1 x25).bind λy26=>let j28 (p27:Bool):Kd.R:=some (.inl ((s.1.1,(),(),(),p27,(acK .i64 (s.1.2.2.2.2.2.1+1)),()),(s.2.1.1,(y26.1.now,(),(),(),y26.1.master.activated,y26.1.masterUp,y26.1.lease.epoch,y26.1.lease.holder,y26.1.lease.ends,(),()),()),s.2.2.1,y26.1.servers,y26.1.sides,y26.1.master.configs,y26.1.places,()));br s.1.2.2.2.2.1 (j28 y26.2.1) (j28 false)) none) (some (.inr ((s.1.1,(),(),(),s.1.2.2.2.2.1,()),s.2)))
def QB:=mu H1
def QJ[dp] :=F6 Tryz.f96 [0] Kd H1 [SB] [] (by kernel_rfl) λs=>by simp only[H1,tm];kernel_rfl
abbrev Mw:LX:=⟨⟨[Ka,PF,OY,YZ,VL,OX],[Li,WJ],Zm,0,74⟩,[(.ext 2,⟨[PF,OY,VL],[Li,VS],X1,0,74⟩)],[],[1,4,6,7,8,12],[4,6,8]⟩
def Hs(s:Y7×(LR×LR×Unit)×List Int×List o4×List Int×List mD×List tc×Unit):Mw.R:=
 br (decide (s.1.2.2.2.2.2.1< (s.2.2.1.length:Int))) (br s.1.2.2.2.2.1 (iteP (0<=s.1.2.2.2.2.2.1/\s.1.2.2.2.2.2.1< (s.2.2.1.length:Int)) ((s.2.2.1[s.1.2.2.2.2.2.1.toNat]?).bind λx50=>iteP (0<=s.1.1/\s.1.1< (s.2.2.2.1.length:Int)) ((s.2.2.2.1[s.1.1.toNat]?).bind λx51=>iteP (0<=x50/\x50< (s.2.2.2.1.length:Int)) ((s.2.2.2.1[x50.toNat]?).bind λx52=>some (.inl ((s.1.1,(),(),(),s.1.2.2.2.2.1,(acK .i64 (s.1.2.2.2.2.2.1+1)),()),s.2.1,s.2.2.1,(s.2.2.2.1.set x50.toNat (⟨x52.up,x52.intact,x52.version,x52.epoch,x52.config,x52.first,x52.log,((x51.log.length:Nat):Int),x52.learned⟩:o4)),s.2.2.2.2))) none) none) none) (some (.inr (((),(),s.1.2.2.2.2.1,()),s.2.1,s.2.2.2)))) (some (.inr (((),(),s.1.2.2.2.2.1,()),s.2.1,s.2.2.2)))
def PZ:=mu Hs
def P5[dp] :=F6 Tryz.f96 [1] Mw Hs [] [] (by kernel_rfl) λs=>by simp only[Hs,tm];kernel_rfl
def Gx(a0:oZ)(a1:Int):Option (oZ×Bool×Unit):=
 (DF a0).bind λy1=>(FF a0 a1).bind λy2=>br (!y2.1) (some (y1.1,false,())) (iteP (0<=a1) ((a0.servers[a1.toNat]?).bind λx3=>(DN x3.config).bind λy4=>(QB ((a1,(),(),(),true,0,()),((0,(),(),(),0,0,0,0,0,(),()),(y1.1.now,(),(),(),y1.1.master.activated,y1.1.masterUp,y1.1.lease.epoch,y1.1.lease.holder,y1.1.lease.ends,(),()),()),y4.1,y1.1.servers,y1.1.sides,y1.1.master.configs,y1.1.places,())).bind λe29=>(PZ ((e29.1.1,(),(),(),e29.1.2.2.2.2.1,0,()),e29.2)).bind λe54=>some ((⟨e54.2.1.2.1.1,e54.2.2.1,e54.2.2.2.1,(⟨e54.2.2.2.2.1,e54.2.1.2.1.2.2.2.2.1⟩:jw),e54.2.1.2.1.2.2.2.2.2.1,(⟨e54.2.1.2.1.2.2.2.2.2.2.1,e54.2.1.2.1.2.2.2.2.2.2.2.1,e54.2.1.2.1.2.2.2.2.2.2.2.2.1⟩:s7),e54.2.2.2.2.2.1⟩:oZ),e54.1.2.2)) none)
def Oc[dp] :=Dh 96 Tryz.f96 Ki [.st .cluster,.b] (λx=>Gx x.1 x.2.1) [Ed,LM,Ip] [QJ,P5] (by kernel_rfl) λx=>by simp only[Gx,tm];kernel_rfl
def Kv(a0:List pZ)(a1:Int):Option (Result×Bool×Unit):=
 (DU a0).bind λy1=>br (!y1.1) (some ((⟨false,0⟩:Result),false,())) ((CY a1 0 (acK .i64 ((a0.length:Int)-1))).bind λy2=>br (!y2.1) (some ((⟨false,0⟩:Result),false,())) (iteP (0<=(0:Int)/\(0:Int)<=a1/\a1<=(a0.length:Int)) ((Ij ((a0.drop (0:Int).toNat).take (a1.toNat-(0:Int).toNat))).bind λy3=>iteP (0<=a1) ((a0[a1.toNat]?).bind λx4=>(Kr y3.1 x4.op).bind λy5=>some (y5.2.1,y5.2.2.1,())) none) none))
def Wt[dp] :=Dh 288 Tryz.f288 YW [.st .result,.b] (λx=>Kv x.1 x.2.1) [LL,DT,OL,QO] [] (by kernel_rfl) λx=>by simp only[Kv,tm];kernel_rfl
def L9(a0:oZ)(a1:Int)(a2:Op):Option (oZ×vi×Unit):=
 (GJ a0 a1 a2).bind λy1=>br (!(y1.2.1==0)) (some (y1.1,(⟨y1.2.1,(⟨false,0⟩:Result),0⟩:vi),())) (iteP (0<=a1/\a1< (y1.1.servers.length:Int)) ((y1.1.servers[a1.toNat]?).bind λx2=>(y1.1.servers[a1.toNat]?).bind λx3=>iteP (0+x2.log.length<=x3.log.length) ((Ng ((x3.log.drop 0).take x2.log.length) a2.client a2.seq).bind λy4=>iteP (0<=a1/\a1< (y1.1.servers.length:Int)) ((y1.1.servers[a1.toNat]?).bind λx5=>br (decide (y4.1≥x5.commit)) ((Gx y1.1 a1).bind λy6=>br (!y6.2.1) (some (y6.1,(⟨4,(⟨false,0⟩:Result),0⟩:vi),())) (iteP (0<=a1/\a1< (y6.1.servers.length:Int)) ((y6.1.servers[a1.toNat]?).bind λx20=>(y6.1.servers[a1.toNat]?).bind λx21=>iteP (0+x20.log.length<=x21.log.length) ((Kv ((x21.log.drop 0).take x20.log.length) y4.1).bind λy22=>some (y6.1,(⟨0,y22.1,y4.1⟩:vi),())) none) none)) (iteP (0<=a1/\a1< (y1.1.servers.length:Int)) ((y1.1.servers[a1.toNat]?).bind λx23=>(y1.1.servers[a1.toNat]?).bind λx24=>iteP (0+x23.log.length<=x24.log.length) ((Kv ((x24.log.drop 0).take x23.log.length) y4.1).bind λy25=>some (y1.1,(⟨0,y25.1,y4.1⟩:vi),())) none) none)) none) none) none)
def Wo[dp] :=Dh 271 Tryz.f271 aaI abl (λx=>L9 x.1 x.2.1 x.2.2.1) [Qu,Vq,Oc,Wt] [] (by kernel_rfl) λx=>by simp only[L9,tm];kernel_rfl
def Ik(a0:oZ)(a1:Int):Option (Int×Unit):=
 (CP a0).bind λy1=>br (!y1.1) (some (1,())) ((CY a1 0 4).bind λy2=>br (!y2.1) (some (1,())) (iteP (0<=a1) ((a0.servers[a1.toNat]?).bind λx3=>br (!x3.up) (some (2,())) (some (0,()))) none))
def Rg[dp] :=Dh 174 Tryz.f174 Ki Iv (λx=>Ik x.1 x.2.1) [C2,DT] [] (by kernel_rfl) λx=>by simp only[Ik,tm];kernel_rfl
def JQ(a0:s7)(a1:Int)(a2:Int)(a3:Int):Option (Bool×Unit):=
 (EM a0).bind λy1=>br y1.1 ((CY a3 0 999).bind λy2=>br y2.1 (br (decide (a0.ends>0)) (br (a0.epoch==a1) (br (a0.holder==a2) (some ((decide ((acK .i64 (a3+3))<a0.ends)),())) (some (false,()))) (some (false,()))) (some (false,()))) (some (false,()))) (some (false,()))
def UH[dp] :=Dh 305 Tryz.f305 [.ty (.st .lease),.ty (.i .i64),.ty (.i .i64),.ty (.i .i64)] [.b] (λx=>JQ x.1 x.2.1 x.2.2.1 x.2.2.2.1) [Nq,DT] [] (by kernel_rfl) λx=>by simp only[JQ,tm];kernel_rfl
def He(a0:oZ)(a1:Int):Option (Bool×Unit):=
 (FF a0 a1).bind λy1=>br y1.1 (iteP (0<=a1) ((a0.servers[a1.toNat]?).bind λx2=>(JQ a0.lease x2.config.epoch a1 a0.now).bind λy3=>some (y3.1,())) none) (some (false,()))
def QP[dp] :=Dh 289 Tryz.f289 Ki [.b] (λx=>He x.1 x.2.1) [LM,UH] [] (by kernel_rfl) λx=>by simp only[He,tm];kernel_rfl
def Dx(a0:o4):Option ((List pZ)×Unit):=
 (CY a0.commit a0.first (acK .i64 (a0.first+(a0.log.length:Int)))).bind λy1=>br (!y1.1) (some (([]:List pZ),())) (br (decide (a0.first<0)) (some (([]:List pZ),())) (iteP (0<=(0:Int)/\(0:Int)<=(acK .i64 (a0.commit-a0.first))/\(acK .i64 (a0.commit-a0.first))<=(a0.log.length:Int)) ((EF ((a0.log.drop (0:Int).toNat).take ((acK .i64 (a0.commit-a0.first)).toNat-(0:Int).toNat))).bind λy2=>some (y2.1,())) none))
def Jk[dp] :=Dh 31 Tryz.f31 Ul TV (λx=>Dx x.1) [DT,I5] [] (by kernel_rfl) λx=>by simp only[Dx,tm];kernel_rfl
def JV(a0:mp)(a1:Int):Option (Int×Bool×Unit):=
 (Gf a0).bind λy1=>br (!y1.1) (some (0,false,())) ((CY a1 0 2).bind λy2=>br (!y2.1) (some (0,false,())) (iteP (0<=a1) ((a0.objects[a1.toNat]?).bind λx3=>some (x3,true,())) none))
def UN[dp] :=Dh 306 Tryz.f306 aaH [.i .i64,.b] (λx=>JV x.1 x.2.1) [Nr,DT] [] (by kernel_rfl) λx=>by simp only[JV,tm];kernel_rfl
def Mf(a0:o4)(a1:Int):Option (vi×Unit):=
 (Dx a0).bind λy1=>(Ij y1.1).bind λy2=>(JV y2.1 a1).bind λy3=>some ((⟨0,(⟨true,y3.1⟩:Result),a0.commit⟩:vi),())
def Ww[dp] :=Dh 290 Tryz.f290 TU [.st .reply] (λx=>Mf x.1 x.2.1) [Jk,OL,UN] [] (by kernel_rfl) λx=>by simp only[Mf,tm];kernel_rfl
def K0(a0:oZ)(a1:Int)(a2:Int):Option (vi×Unit):=
 (Ik a0 a1).bind λy1=>br (!(y1.1==0)) (some ((⟨y1.1,(⟨false,0⟩:Result),0⟩:vi),())) ((CY a2 0 2).bind λy2=>br (!y2.1) (some ((⟨1,(⟨false,0⟩:Result),0⟩:vi),())) (iteP (0<=a1) ((a0.servers[a1.toNat]?).bind λx3=>(DG x3 a1).bind λy4=>br (!y4.1) (some ((⟨3,(⟨false,0⟩:Result),0⟩:vi),())) ((He a0 a1).bind λy5=>br (!y5.1) (some ((⟨7,(⟨false,0⟩:Result),0⟩:vi),())) (iteP (0<=a1) ((a0.servers[a1.toNat]?).bind λx6=>(Mf x6 a2).bind λy7=>some (y7.1,())) none))) none))
def Vs[dp] :=Dh 272 Tryz.f272 P1 [.st .reply] (λx=>K0 x.1 x.2.1 x.2.2.1) [Rg,DT,Io,QP,Ww] [] (by kernel_rfl) λx=>by simp only[K0,tm];kernel_rfl
def Kw(a0:s7):Option (Int×Unit):=
 (EM a0).bind λy1=>br (!y1.1) (some (0,())) (br (a0.ends==0) (some (0,())) (some ((acK .i64 (a0.ends+3)),())))
def SC[dp] :=Dh 58 Tryz.f58 Xc Iv (λx=>Kw x.1) [Nq] [] (by kernel_rfl) λx=>by simp only[Kw,tm];kernel_rfl
def GU(a0:s7)(a1:Int):Option (Bool×Unit):=
 (EM a0).bind λy1=>br y1.1 ((CY a1 0 999).bind λy2=>br y2.1 ((Kw a0).bind λy3=>some ((decide (a1≥y3.1)),())) (some (false,()))) (some (false,()))
def Px[dp] :=Dh 116 Tryz.f116 aaJ [.b] (λx=>GU x.1 x.2.1) [Nq,DT,SC] [] (by kernel_rfl) λx=>by simp only[GU,tm];kernel_rfl
def Hz(a0:s7)(a1:Int)(a2:Int)(a3:Int)(a4:Int):Option (s7×Bool×Unit):=
 br (a0.epoch==a1) ((EM a0).bind λy1=>br (!y1.1) (some (a0,false,())) ((CY a1 1 20).bind λy2=>br (!y2.1) (some (a0,false,())) ((CY a2 0 4).bind λy3=>br (!y3.1) (some (a0,false,())) ((CY a3 0 999).bind λy4=>br (!y4.1) (some (a0,false,())) ((CY a4 1 50).bind λy5=>br (!y5.1) (some (a0,false,())) ((GU a0 a3).bind λy6=>br (!y6.1) (br (!(a0.holder==a2)) (some (a0,false,())) (br (a0.holder==a2) (some ((⟨a1,a2,(if a0.ends>(acK .i64 (a3+a4)) then a0.ends else (acK .i64 (a3+a4)))⟩:s7),true,())) (some ((⟨a1,a2,(acK .i64 (a3+a4))⟩:s7),true,())))) (br (a0.holder==a2) (some ((⟨a1,a2,(if a0.ends>(acK .i64 (a3+a4)) then a0.ends else (acK .i64 (a3+a4)))⟩:s7),true,())) (some ((⟨a1,a2,(acK .i64 (a3+a4))⟩:s7),true,()))))))))) ((EM a0).bind λy10=>br (!y10.1) (some (a0,false,())) ((CY a1 1 20).bind λy11=>br (!y11.1) (some (a0,false,())) ((CY a2 0 4).bind λy12=>br (!y12.1) (some (a0,false,())) ((CY a3 0 999).bind λy13=>br (!y13.1) (some (a0,false,())) ((CY a4 1 50).bind λy14=>br (!y14.1) (some (a0,false,())) ((GU a0 a3).bind λy15=>br (!y15.1) (br (!false) (some (a0,false,())) (some ((⟨a1,a2,(acK .i64 (a3+a4))⟩:s7),true,()))) (some ((⟨a1,a2,(acK .i64 (a3+a4))⟩:s7),true,()))))))))
def UG[dp] :=Dh 175 Tryz.f175 aaK [.st .lease,.b] (λx=>Hz x.1 x.2.1 x.2.2.1 x.2.2.2.1 x.2.2.2.2.1) [Nq,DT,Px] [] (by kernel_rfl) λx=>by simp only[Hz,tm];kernel_rfl
def FD(a0:oZ)(a1:Int)(a2:Int):Option (oZ×Int×Unit):=
 (DF a0).bind λy1=>(Ik a0 a1).bind λy2=>br (!(y2.1==0)) (some (y1.1,y2.1,())) (iteP (0<=a1) ((a0.servers[a1.toNat]?).bind λx3=>(DG x3 a1).bind λy4=>br (!y4.1) (some (y1.1,3,())) (br (decide ((acK .i64 (a0.masterUp*2))<=3)) (some (y1.1,8,())) (iteP (0<=a1) ((a0.sides[a1.toNat]?).bind λx5=>br (!(x5==0)) (some (y1.1,8,())) (br (!(x3.config.epoch==(a0.master.configs.length:Int))) (some (y1.1,11,())) ((Hz a0.lease x3.config.epoch a1 a0.now a2).bind λy6=>br (!y6.2.1) (some (y1.1,7,())) (some ((⟨y1.1.now,y1.1.servers,y1.1.sides,y1.1.master,y1.1.masterUp,y6.1,y1.1.places⟩:oZ),0,()))))) none))) none)
def Qx[dp] :=Dh 60 Tryz.f60 P1 M4 (λx=>FD x.1 x.2.1 x.2.2.1) [Ed,Rg,Io,UG] [] (by kernel_rfl) λx=>by simp only[FD,tm];kernel_rfl
abbrev PP:LX:=⟨⟨[J9,Um,LP],[Jd],F0,0,28⟩,[(.ext 0,⟨[Um],[],F0,0,28⟩)],[],[1,3,4],[3]⟩
def HU(s:XX×(MI×Unit)×List Int×Unit):PP.R:=
 br (decide (s.1.2.2.1< (s.2.1.1.2.1.length:Int))) ((CP (⟨s.2.1.1.1,s.2.1.1.2.1,s.2.1.1.2.2.1,(⟨s.2.1.1.2.2.2.1,s.2.1.1.2.2.2.2.1⟩:jw),s.2.1.1.2.2.2.2.2.1,(⟨s.2.1.1.2.2.2.2.2.2.1,s.2.1.1.2.2.2.2.2.2.2.1,s.2.1.1.2.2.2.2.2.2.2.2.1⟩:s7),s.2.1.1.2.2.2.2.2.2.2.2.2.1⟩:oZ)).bind λy13=>br y13.1 (iteP (0<=s.1.2.2.1) ((s.2.1.1.2.1[s.1.2.2.1.toNat]?).bind λx14=>br x14.up (iteP ((s.2.2.1++([s.1.2.2.1]:List Int)).length*8<=2 ^ 40) (some (.inl (((),(),(acK .i64 (s.1.2.2.1+1)),()),s.2.1,(s.2.2.1++([s.1.2.2.1]:List Int)),()))) none) (some (.inl (((),(),(acK .i64 (s.1.2.2.1+1)),()),s.2)))) none) (some (.inr (((),()),(()),s.2.2)))) (some (.inr (((),()),(()),s.2.2)))
def PC:=mu HU
def Uc[dp] :=F6 Tryz.f189 [0] PP HU [C2] [] (by kernel_rfl) λs=>by simp only[HU,tm];kernel_rfl
def K4(a0:oZ):Option ((List Int)×Unit):=
 (PC (((),(),0,()),((a0.now,a0.servers,a0.sides,a0.master.configs,a0.master.activated,a0.masterUp,a0.lease.epoch,a0.lease.holder,a0.lease.ends,a0.places,()),()),([]:List Int),())).bind λe16=>some e16.2.2
def Vx[dp] :=Dh 189 Tryz.f189 QY IT (λx=>K4 x.1) [] [Uc] (by kernel_rfl) λx=>by simp only[K4,tm];kernel_rfl
abbrev O8:LX:=⟨⟨[M2,Um,LP],[],F0,0,26⟩,[(.ext 0,⟨[Um],[],F0,0,26⟩)],[],[0,3,4],[3]⟩
def G7(s:abe×Unit×List Int×Unit):O8.R:=
 br (decide (s.1.2.2.1< (s.1.1.length:Int))) ((FU s.1.1).bind λy4=>br y4.1 (iteP (0<=s.1.2.2.1) ((s.1.1[s.1.2.2.1.toNat]?).bind λx5=>br (x5==0) (iteP ((s.2.2.1++([s.1.2.2.1]:List Int)).length*8<=2 ^ 40) (some (.inl ((s.1.1,(),(acK .i64 (s.1.2.2.1+1)),()),(()),(s.2.2.1++([s.1.2.2.1]:List Int)),()))) none) (some (.inl ((s.1.1,(),(acK .i64 (s.1.2.2.1+1)),()),(()),s.2.2)))) none) (some (.inr (((),()),(()),s.2.2)))) (some (.inr (((),()),(()),s.2.2)))
def OV:=mu G7
def Tf[dp] :=F6 Tryz.f190 [0] O8 G7 [N0] [] (by kernel_rfl) λs=>by simp only[G7,tm];kernel_rfl
def JR(a0:List Int):Option ((List Int)×Unit):=
 (OV ((a0,(),0,()),(()),([]:List Int),())).bind λe7=>some e7.2.2
def UJ[dp] :=Dh 190 Tryz.f190 WF IT (λx=>JR x.1) [] [Tf] (by kernel_rfl) λx=>by simp only[JR,tm];kernel_rfl
def Mg(a0:oZ):Option ((List Int)×Unit):=
 (K4 a0).bind λy1=>(JR a0.sides).bind λy2=>(FV y1.1 y2.1).bind λy3=>some (y3.1,())
def Wx[dp] :=Dh 85 Tryz.f85 QY IT (λx=>Mg x.1) [Vx,UJ,Lk] [] (by kernel_rfl) λx=>by simp only[Mg,tm];kernel_rfl
def C1(a0:jw):Option (mD×Bool×Unit):=
 (EY a0 a0.activated).bind λy1=>some (y1.1,y1.2.1,())
def FX[dp] :=Dh 29 Tryz.f29 VJ VQ (λx=>C1 x.1) [PX] [] (by kernel_rfl) λx=>by simp only[C1,tm];kernel_rfl
abbrev MD:LX:=⟨⟨[M2,PD,N5,Mt],[],F0,0,28⟩,[(.ext 0,⟨[N5],[],F0,0,28⟩)],[],[0,1,5,6],[5]⟩
def Fv(s:abM×Unit×List Int×Unit):MD.R:=
 br (decide (s.1.2.2.2.1< (s.1.1.length:Int))) (iteP (0<=s.1.2.2.2.1) ((s.1.1[s.1.2.2.2.1.toNat]?).bind λx5=>(DD s.1.2.1 x5).bind λy6=>br (!y6.1) (iteP (0<=s.1.2.2.2.1) ((s.1.1[s.1.2.2.2.1.toNat]?).bind λx7=>(G2 s.2.2.1 x7).bind λy8=>some (.inl ((s.1.1,s.1.2.1,(),(acK .i64 (s.1.2.2.2.1+1)),()),(()),y8.1,()))) none) (some (.inl ((s.1.1,s.1.2.1,(),(acK .i64 (s.1.2.2.2.1+1)),()),(()),s.2.2)))) none) (some (.inr (((),()),(()),s.2.2)))
def Mo:=mu Fv
def Qa[dp] :=F6 Tryz.f90 [0] MD Fv [F5,N2] [] (by kernel_rfl) λs=>by simp only[Fv,tm];kernel_rfl
def Ec(a0:List Int)(a1:List Int):Option ((List Int)×Unit):=
 (Mo ((a0,a1,(),0,()),(()),([]:List Int),())).bind λe10=>some e10.2.2
def KC[dp] :=Dh 90 Tryz.f90 UZ IT (λx=>Ec x.1 x.2.1) [] [Qa] (by kernel_rfl) λx=>by simp only[Ec,tm];kernel_rfl
abbrev Ru:LX:=⟨⟨[OW,PD,N5,Mt],[],F0,0,33⟩,[(.ext 0,⟨[N5],[],F0,0,33⟩)],[],[0,1,5,6],[5]⟩
def H7(s: (List tc×List Int×Unit×Int×Unit)×Unit×List Int×Unit):Ru.R:=
 br (decide (s.1.2.2.2.1< (s.1.2.1.length:Int))) ((Dt s.1.1).bind λy5=>br y5.1 ((Ei s.1.2.1).bind λy6=>br y6.1 (iteP (0<=s.1.2.2.2.1) ((s.1.2.1[s.1.2.2.2.1.toNat]?).bind λx7=>iteP (0<=x7) ((s.1.1[x7.toNat]?).bind λx8=>(G2 s.2.2.1 x8.rack).bind λy9=>some (.inl ((s.1.1,s.1.2.1,(),(acK .i64 (s.1.2.2.2.1+1)),()),(()),y9.1,()))) none) none) (some (.inr (((),()),(()),s.2.2)))) (some (.inr (((),()),(()),s.2.2)))) (some (.inr (((),()),(()),s.2.2)))
def Rj:=mu H7
def VY[dp] :=F6 Tryz.f193 [0] Ru H7 [Lc,LK,N2] [] (by kernel_rfl) λs=>by simp only[H7,tm];kernel_rfl
def Ku(a0:List tc)(a1:List Int):Option ((List Int)×Unit):=
 (Rj ((a0,a1,(),0,()),(()),([]:List Int),())).bind λe10=>some e10.2.2
def XQ[dp] :=Dh 193 Tryz.f193 aaL IT (λx=>Ku x.1 x.2.1) [] [VY] (by kernel_rfl) λx=>by simp only[Ku,tm];kernel_rfl
def Kt(a0:List tc)(a1:Int):Option (Bool×Unit):=
 (Dt a0).bind λy1=>br y1.1 ((CY a1 0 4).bind λy2=>br y2.1 (iteP (0<=a1) ((a0[a1.toNat]?).bind λx3=>iteP (0<=a1) ((a0[a1.toNat]?).bind λx4=>some ((decide (x3.load<x4.capacity)),())) none) none) (some (false,()))) (some (false,()))
def XP[dp] :=Dh 194 Tryz.f194 aaM [.b] (λx=>Kt x.1 x.2.1) [Lc,DT] [] (by kernel_rfl) λx=>by simp only[Kt,tm];kernel_rfl
def Ky(a0:List tc)(a1:List Int)(a2:Int)(a3:Int):Option (Bool×Unit):=
 iteP (0<=a2) ((a0[a2.toNat]?).bind λx1=>(DD a1 x1.rack).bind λy2=>iteP (0<=a3) ((a0[a3.toNat]?).bind λx3=>(DD a1 x3.rack).bind λy4=>br (!(y2.1==y4.1)) (some (y4.1,())) (iteP (0<=a2) ((a0[a2.toNat]?).bind λx5=>iteP (0<=a3) ((a0[a3.toNat]?).bind λx6=>some ((decide (x5.load<x6.load)),())) none) none)) none) none
def Wz[dp] :=Dh 195 Tryz.f195 [.ty (.ls (.st .place)),.ty (.ls (.i .i64)),.ty (.i .i64),.ty (.i .i64)] [.b] (λx=>Ky x.1 x.2.1 x.2.2.1 x.2.2.2.1) [F5] [] (by kernel_rfl) λx=>by simp only[Ky,tm];kernel_rfl
abbrev M9:LX:=⟨⟨[OW,PD,(2,.cl (.ro (.i .i64))),M3,VN,(9,.cl (.int .i64))],[],F0,0,46⟩,[(.ext 0,⟨[M3],[],[],0,46⟩)],[],[0,1,2,7,8,9],[7]⟩
def GQ(s:abg×Unit×List Int×Unit):M9.R:=
 br (decide (s.1.2.2.2.2.2.1<5)) ((Ei s.1.2.1).bind λy8=>br y8.1 ((Kt s.1.1 s.1.2.2.2.2.2.1).bind λy9=>let j14 (p13:Int):M9.R:=some (.inl ((s.1.1,s.1.2.1,s.1.2.2.1,p13,(),(acK .i64 (s.1.2.2.2.2.2.1+1)),()),(()),s.2.2));br (!y9.1) (j14 s.1.2.2.2.1) ((DD s.1.2.1 s.1.2.2.2.2.2.1).bind λy10=>br y10.1 (j14 s.1.2.2.2.1) ((DD s.1.2.2.1 s.1.2.2.2.2.2.1).bind λy11=>br y11.1 (j14 s.1.2.2.2.1) (br (decide (s.1.2.2.2.1<0)) (j14 s.1.2.2.2.2.2.1) ((Ky s.1.1 s.2.2.1 s.1.2.2.2.2.2.1 s.1.2.2.2.1).bind λy12=>br y12.1 (j14 s.1.2.2.2.2.2.1) (j14 s.1.2.2.2.1)))))) (some (.inr ((s.1.2.2.2.1,()),(()),(()))))) (some (.inr ((s.1.2.2.2.1,()),(()),(()))))
def PB:=mu GQ
def T8[dp] :=F6 Tryz.f89 [0] M9 GQ [LK,XP,F5,Wz] [] (by kernel_rfl) λs=>by simp only[GQ,tm];kernel_rfl
def Hp(a0:List tc)(a1:List Int)(a2:List Int):Option (Int×Unit):=
 (Ku a0 a1).bind λy1=>(PB ((a0,a1,a2,(-1),(),0,()),(()),y1.1,())).bind λe15=>some e15.1
def Rf[dp] :=Dh 89 Tryz.f89 aaN Iv (λx=>Hp x.1 x.2.1 x.2.2.1) [XQ] [T8] (by kernel_rfl) λx=>by simp only[Hp,tm];kernel_rfl
abbrev Oq:LX:=⟨⟨[OW,MH,VO,aa5],[],aaf,0,52⟩,[(.ret,⟨[VN,VO],[],F0,0,52⟩),(.ext 0,⟨[(8,.cl (.dead)),VO],[],F0,0,52⟩)],[],[0,3,9,10],[8,9]⟩
def Fg(s:abh×Unit×List Int×List Int×Unit):Oq.R:=
 br (decide ((s.2.2.1.length:Int)<s.1.2.1)) ((Hp s.1.1 s.2.2.1 s.2.2.2.1).bind λy11=>br (decide (y11.1<0)) (some (.inr (.inl (((),(),()),(()),s.2.2.1,())))) ((G2 s.2.2.1 y11.1).bind λy12=>some (.inl (s.1,(()),y12.1,s.2.2.2)))) (some (.inr (.inr (((),(),()),(()),s.2.2.1,()))))
def HO:=mu Fg
def R0[dp] :=F6 Tryz.f87 [0] Oq Fg [Rf,N2] [] (by kernel_rfl) λs=>by simp only[Fg,tm];kernel_rfl
def GV(a0:List tc)(a1:List Int)(a2:List Int)(a3:Int):Option ((List Int)×Unit):=
 (FV a1 a2).bind λy1=>(Ec ([0,1,2,3,4]:List Int) a2).bind λy2=>(Dt a0).bind λy3=>br (!y3.1) (some (([]:List Int),())) ((Ei a1).bind λy4=>br (!y4.1) (some (([]:List Int),())) ((Ei a2).bind λy5=>br (!y5.1) (some (([]:List Int),())) ((CY a3 0 5).bind λy6=>br (!y6.1) (some (([]:List Int),())) ((HO ((a0,a3,(),(),()),(()),y1.1,y2.1,())).bind λe13=>Sum.elim (λe13_0=>some e13_0.2.2) (λe13_1=>some e13_1.2.2) e13))))
def TL[dp] :=Dh 87 Tryz.f87 aaO IT (λx=>GV x.1 x.2.1 x.2.2.1 x.2.2.2.1) [Lk,KC,Lc,LK,DT] [R0] (by kernel_rfl) λx=>by simp only[GV,tm];kernel_rfl
abbrev MA:LX:=⟨⟨[Ka,PE,Rp,OY,VN,(9,.cl (.ptr 2 0)),aa6,OX],[Jd,abp,Zf],abt,0,132⟩,[(.ext 0,⟨[Ka,PE,Rp,OY,VN,(9,.cl (.ptr 2 0)),aa6],[Jd,abp,Zf],abt,0,132⟩)],[],[1,2,3,6,8,9,11,12],[1,2,3,6,8,9,11]⟩
def EO(s: (Int×Int×Unit×Unit×Unit×Unit×Unit×Int×Unit)×(MI×QZ×QZ×Unit)×List Int×List Int×List Int×List Int×Unit):MA.R:=
 br (decide (s.1.2.2.2.2.2.2.2.1< (s.2.2.2.2.1.length:Int))) (iteP (0<=s.1.2.2.2.2.2.2.2.1/\s.1.2.2.2.2.2.2.2.1< (s.2.2.2.2.1.length:Int)) ((s.2.2.2.2.1[s.1.2.2.2.2.2.2.2.1.toNat]?).bind λx27=>(DD s.2.2.1 x27).bind λy28=>let j33 (p32:List Int):MA.R:=some (.inl ((s.1.1,s.1.2.1,(),(),(),(),(),(acK .i64 (s.1.2.2.2.2.2.2.2.1+1)),()),s.2.1,s.2.2.1,p32,s.2.2.2.2));br y28.1 (iteP (0<=s.1.2.2.2.2.2.2.2.1/\s.1.2.2.2.2.2.2.2.1< (s.2.2.2.2.1.length:Int)) ((s.2.2.2.2.1[s.1.2.2.2.2.2.2.2.1.toNat]?).bind λx29=>iteP (0<=x29) ((s.2.1.1.2.1[x29.toNat]?).bind λx30=>br (x30.config.epoch==s.2.1.2.2.1.1) (iteP (0<=s.1.2.2.2.2.2.2.2.1/\s.1.2.2.2.2.2.2.2.1< (s.2.2.2.2.1.length:Int)) ((s.2.2.2.2.1[s.1.2.2.2.2.2.2.2.1.toNat]?).bind λx31=>iteP ((s.2.2.2.1++([x31]:List Int)).length*8<=2 ^ 40) (j33 (s.2.2.2.1++([x31]:List Int))) none) none) (j33 s.2.2.2.1)) none) none) (j33 s.2.2.2.1)) none) (some (.inr ((s.1.1,s.1.2.1,(),(),(),(),(),()),s.2)))
def Mn:=mu EO
def Th[dp] :=F6 Tryz.f18 [0] MA EO [F5] [] (by kernel_rfl) λs=>by simp only[EO,tm];kernel_rfl
def Fb(a0:oZ)(a1:Int)(a2:Int):Option (mD×Bool×Unit):=
 (CP a0).bind λy1=>br (!y1.1) (some ((⟨0,0,([]:List Int),([]:List Int)⟩:mD),false,())) ((CY a1 1 3).bind λy2=>br (!y2.1) (some ((⟨0,0,([]:List Int),([]:List Int)⟩:mD),false,())) ((CY a2 0 1).bind λy3=>br (!y3.1) (some ((⟨0,0,([]:List Int),([]:List Int)⟩:mD),false,())) (br ((a0.master.configs.length:Int)==20) (some ((⟨0,0,([]:List Int),([]:List Int)⟩:mD),false,())) ((Mg a0).bind λy4=>(C1 a0.master).bind λy5=>(Mn ((a1,a2,(),(),(),(),(),0,()),((a0.now,a0.servers,a0.sides,a0.master.configs,a0.master.activated,a0.masterUp,a0.lease.epoch,a0.lease.holder,a0.lease.ends,a0.places,()),(0,0,(),(),()),(y5.1.epoch,y5.1.primary,(),(),()),()),y4.1,([]:List Int),y5.1.replicas,y5.1.witnesses,())).bind λe34=>(GV e34.2.1.1.2.2.2.2.2.2.2.2.2.1 e34.2.2.2.1 e34.2.2.1 e34.1.1).bind λy35=>br ((y35.1.length:Int)==0) (some ((⟨0,0,([]:List Int),([]:List Int)⟩:mD),false,())) (iteP (0<=(0:Int)/\(0:Int)< (y35.1.length:Int)) ((y35.1[(0:Int).toNat]?).bind λx36=>(DD y35.1 e34.2.1.2.2.1.2.1).bind λy37=>let j43 (p39:Int):Option (mD×Bool×Unit):=br (e34.1.2.1==1) ((Ec ([0,1,2,3,4]:List Int) e34.2.2.1).bind λy40=>(Hp e34.2.1.1.2.2.2.2.2.2.2.2.2.1 y35.1 y40.1).bind λy41=>br (decide (y41.1≥0)) (some ((⟨(acK .i64 ((e34.2.1.1.2.2.2.1.length:Int)+1)),p39,y35.1,([y41.1]:List Int)⟩:mD),true,())) (some ((⟨(acK .i64 ((e34.2.1.1.2.2.2.1.length:Int)+1)),p39,y35.1,([]:List Int)⟩:mD),true,()))) (some ((⟨(acK .i64 ((e34.2.1.1.2.2.2.1.length:Int)+1)),p39,y35.1,([]:List Int)⟩:mD),true,()));br y37.1 ((HW (⟨e34.2.1.2.2.1.1,e34.2.1.2.2.1.2.1,e34.2.2.2.2.1,e34.2.2.2.2.2.1⟩:mD)).bind λy38=>br (!y38.1) (j43 e34.2.1.2.2.1.2.1) (j43 x36)) (j43 x36)) none)))))
def N1[dp] :=Dh 18 Tryz.f18 P1 VQ (λx=>Fb x.1 x.2.1 x.2.2.1) [C2,DT,Wx,FX,F5,TL,Pn,KC,Rf] [Th] (by kernel_rfl) λx=>by simp only[Fb,tm];kernel_rfl
def Fj(a0:jw)(a1:mD):Option (jw×Bool×Unit):=
 (Kx a0).bind λy1=>(C7 a0).bind λy2=>br (!y2.1) (some (y1.1,false,())) ((CV a1).bind λy3=>br (!y3.1) (some (y1.1,false,())) (br (!(a1.epoch==(acK .i64 ((a0.configs.length:Int)+1)))) (some (y1.1,false,())) ((Gj a1).bind λy4=>iteP ((y1.1.configs++([y4.1]:List mD)).length*64<=2 ^ 40) (some ((⟨(y1.1.configs++([y4.1]:List mD)),y1.1.activated⟩:jw),true,())) none)))
def Of[dp] :=Dh 124 Tryz.f124 aaP Xj (λx=>Fj x.1 x.2.1) [QR,KU,Jl,OM] [] (by kernel_rfl) λx=>by simp only[Fj,tm];kernel_rfl
def FC(a0:oZ)(a1:mD):Option (oZ×Int×Unit):=
 (DF a0).bind λy1=>(CP a0).bind λy2=>br (!y2.1) (some (y1.1,1,())) (br (decide ((acK .i64 (a0.masterUp*2))<=3)) (some (y1.1,8,())) ((Fj a0.master a1).bind λy3=>br (!y3.2.1) (some (y1.1,1,())) (some ((⟨y1.1.now,y1.1.servers,y1.1.sides,y3.1,y1.1.masterUp,y1.1.lease,y1.1.places⟩:oZ),0,()))))
def MX[dp] :=Dh 37 Tryz.f37 aaQ M4 (λx=>FC x.1 x.2.1) [Ed,C2,Of] [] (by kernel_rfl) λx=>by simp only[FC,tm];kernel_rfl
def FB(a0:jw):Option (mD×Bool×Unit):=
 (EY a0 (a0.configs.length:Int)).bind λy1=>some (y1.1,y1.2.1,())
def UI[dp] :=Dh 115 Tryz.f115 VJ VQ (λx=>FB x.1) [PX] [] (by kernel_rfl) λx=>by simp only[FB,tm];kernel_rfl
def FE(a0:o4)(a1:Int):Option (o4×Bool×Unit):=
 (Gy a0).bind λy1=>(CY a1 1 20).bind λy2=>br (!y2.1) (some (y1.1,false,())) (br (decide (a1<=a0.epoch)) (some (y1.1,false,())) (br (decide (a0.epoch<0)) (some (y1.1,false,())) (some ((⟨y1.1.up,y1.1.intact,y1.1.version,a1,y1.1.config,y1.1.first,y1.1.log,y1.1.commit,y1.1.learned⟩:o4),true,()))))
def Qy[dp] :=Dh 210 Tryz.f210 TU Xk (λx=>FE x.1 x.2.1) [QS,DT] [] (by kernel_rfl) λx=>by simp only[FE,tm];kernel_rfl
abbrev Lr:LX:=⟨⟨[Ka,PE,Rp,OY,(7,.cl (.ptr 2 0)),aa7,SR],[Jd,Li,WJ],Zm,0,85⟩,[(.ext 0,⟨[(6,.cl (.ptr 0 0)),(7,.cl (.ptr 1 0))],[Li,VS],X1,0,85⟩)],[],[1,2,3,6,7,10,11],[6,7]⟩
def Et(s: (Int×Int×Unit×Unit×Unit×Unit×Int×Unit)×(MI×LR×LR×Unit)×List Int×List o4×List Int×List mD×List tc×Unit):Lr.R:=
 br (decide (s.1.2.2.2.2.2.2.1< (s.2.2.1.length:Int))) (iteP (0<=s.1.2.2.2.2.2.2.1/\s.1.2.2.2.2.2.2.1< (s.2.2.1.length:Int)) ((s.2.2.1[s.1.2.2.2.2.2.2.1.toNat]?).bind λx36=>iteP (0<=x36) ((s.2.1.1.2.1[x36.toNat]?).bind λx37=>let j47 (p46:List o4):Lr.R:=some (.inl ((s.1.1,s.1.2.1,(),(),(),(),(acK .i64 (s.1.2.2.2.2.2.2.1+1)),()),s.2.1,s.2.2.1,p46,s.2.2.2.2));br x37.up (iteP (0<=s.1.2.2.2.2.2.2.1/\s.1.2.2.2.2.2.2.1< (s.2.2.1.length:Int)) ((s.2.2.1[s.1.2.2.2.2.2.2.1.toNat]?).bind λx38=>(EG s.2.1.1.2.2.1 s.1.1 x38).bind λy39=>br y39.1 (iteP (0<=s.1.2.2.2.2.2.2.1/\s.1.2.2.2.2.2.2.1< (s.2.2.1.length:Int)) ((s.2.2.1[s.1.2.2.2.2.2.2.1.toNat]?).bind λx40=>iteP (0<=s.1.2.2.2.2.2.2.1/\s.1.2.2.2.2.2.2.1< (s.2.2.1.length:Int)) ((s.2.2.1[s.1.2.2.2.2.2.2.1.toNat]?).bind λx41=>iteP (0<=x41) ((s.2.1.1.2.1[x41.toNat]?).bind λx42=>(FE x42 s.1.2.1).bind λy43=>iteP (0<=x40/\x40< (s.2.2.2.1.length:Int)) ((s.2.2.2.1[x40.toNat]?).bind λ_=>j47 (s.2.2.2.1.set x40.toNat y43.1)) none) none) none) none) (j47 s.2.2.2.1)) none) (j47 s.2.2.2.1)) none) none) (some (.inr (((),(),()),s.2.1.2,s.2.2.2)))
def Lo:=mu Et
def R1[dp] :=F6 Tryz.f117 [0] Lr Et [KB,Qy] [] (by kernel_rfl) λs=>by simp only[Et,tm];kernel_rfl
def Eu(a0:oZ)(a1:Int)(a2:Int):Option (oZ×Unit):=
 (DF a0).bind λy1=>(C1 a0.master).bind λy2=>(CP a0).bind λy3=>br (!y3.1) (some (y1.1,())) (br (!y2.2.1) (some (y1.1,())) ((CY a2 1 (a0.master.configs.length:Int)).bind λy4=>br (!y4.1) (some (y1.1,())) ((DN y2.1).bind λy5=>(Lo ((a1,a2,(),(),(),(),0,()),((a0.now,a0.servers,a0.sides,a0.master.configs,a0.master.activated,a0.masterUp,a0.lease.epoch,a0.lease.holder,a0.lease.ends,a0.places,()),(0,(),(),(),0,0,0,0,0,(),()),(y1.1.now,(),(),(),y1.1.master.activated,y1.1.masterUp,y1.1.lease.epoch,y1.1.lease.holder,y1.1.lease.ends,(),()),()),y5.1,y1.1.servers,y1.1.sides,y1.1.master.configs,y1.1.places,())).bind λe48=>some ((⟨e48.2.1.2.1.1,e48.2.2.1,e48.2.2.2.1,(⟨e48.2.2.2.2.1,e48.2.1.2.1.2.2.2.2.1⟩:jw),e48.2.1.2.1.2.2.2.2.2.1,(⟨e48.2.1.2.1.2.2.2.2.2.2.1,e48.2.1.2.1.2.2.2.2.2.2.2.1,e48.2.1.2.1.2.2.2.2.2.2.2.2.1⟩:s7),e48.2.2.2.2.2.1⟩:oZ),()))))
def TM[dp] :=Dh 117 Tryz.f117 P1 RR (λx=>Eu x.1 x.2.1 x.2.2.1) [Ed,FX,C2,DT,Ip] [R1] (by kernel_rfl) λx=>by simp only[Eu,tm];kernel_rfl
abbrev MC:LX:=⟨⟨[Ka,LQ,N5,OY,VP,NC],[Jd,X0],Zl,0,74⟩,[(.ext 0,⟨[N5],[],F0,0,74⟩)],[],[1,2,5,6,7,8],[5]⟩
def E9(s:Y7×(MI×QZ×Unit)×List Int×List Int×List Int×Unit):MC.R:=
 br (decide (s.1.2.2.2.2.2.1< (s.2.2.2.1.length:Int))) (br s.1.2.2.2.2.1 ((CP (⟨s.2.1.1.1,s.2.1.1.2.1,s.2.1.1.2.2.1,(⟨s.2.1.1.2.2.2.1,s.2.1.1.2.2.2.2.1⟩:jw),s.2.1.1.2.2.2.2.2.1,(⟨s.2.1.1.2.2.2.2.2.2.1,s.2.1.1.2.2.2.2.2.2.2.1,s.2.1.1.2.2.2.2.2.2.2.2.1⟩:s7),s.2.1.1.2.2.2.2.2.2.2.2.2.1⟩:oZ)).bind λy20=>br y20.1 ((CY s.1.1 0 4).bind λy21=>br y21.1 (iteP (0<=s.1.2.2.2.2.2.1/\s.1.2.2.2.2.2.1< (s.2.2.2.1.length:Int)) ((s.2.2.2.1[s.1.2.2.2.2.2.1.toNat]?).bind λx22=>iteP (0<=x22) ((s.2.1.1.2.1[x22.toNat]?).bind λx23=>let j28 (p27:List Int):MC.R:=some (.inl ((s.1.1,(),(),(),s.1.2.2.2.2.1,(acK .i64 (s.1.2.2.2.2.2.1+1)),()),s.2.1,p27,s.2.2.2));br x23.up (br (x23.config.epoch==s.2.1.2.1.1) (iteP (0<=s.1.2.2.2.2.2.1/\s.1.2.2.2.2.2.1< (s.2.2.2.1.length:Int)) ((s.2.2.2.1[s.1.2.2.2.2.2.1.toNat]?).bind λx24=>(EG s.2.1.1.2.2.1 s.1.1 x24).bind λy25=>br y25.1 (iteP (0<=s.1.2.2.2.2.2.1/\s.1.2.2.2.2.2.1< (s.2.2.2.1.length:Int)) ((s.2.2.2.1[s.1.2.2.2.2.2.1.toNat]?).bind λx26=>iteP ((s.2.2.1++([x26]:List Int)).length*8<=2 ^ 40) (j28 (s.2.2.1++([x26]:List Int))) none) none) (j28 s.2.2.1)) none) (j28 s.2.2.1)) (j28 s.2.2.1)) none) none) (some (.inr (((),()),(()),s.2.2.1,())))) (some (.inr (((),()),(()),s.2.2.1,())))) (some (.inr (((),()),(()),s.2.2.1,())))) (some (.inr (((),()),(()),s.2.2.1,())))
def J7:=mu E9
def Ti[dp] :=F6 Tryz.f248 [0] MC E9 [C2,DT,KB] [] (by kernel_rfl) λs=>by simp only[E9,tm];kernel_rfl
def EX(a0:oZ)(a1:Int):Option ((List Int)×Unit):=
 (C1 a0.master).bind λy1=>(J7 ((a1,(),(),(),y1.2.1,0,()),((a0.now,a0.servers,a0.sides,a0.master.configs,a0.master.activated,a0.masterUp,a0.lease.epoch,a0.lease.holder,a0.lease.ends,a0.places,()),(y1.1.epoch,y1.1.primary,(),(),()),()),([]:List Int),y1.1.replicas,y1.1.witnesses,())).bind λe29=>some e29.2.2
def UP[dp] :=Dh 248 Tryz.f248 Ki IT (λx=>EX x.1 x.2.1) [FX] [Ti] (by kernel_rfl) λx=>by simp only[EX,tm];kernel_rfl
abbrev O6:LX:=⟨⟨[LQ,Mu,Xe,M3],[Jd],F0,0,44⟩,[(.ext 0,⟨[Mu],[],[],0,44⟩)],[],[2,5,6,7],[5]⟩
def E8(s:abf×(MI×Unit)×List Int×Unit):O6.R:=
 br (decide (s.1.2.2.2.1< (s.2.2.1.length:Int))) (br (decide (s.1.2.1<0)) (iteP (0<=s.1.2.2.2.1/\s.1.2.2.2.1< (s.2.2.1.length:Int)) ((s.2.2.1[s.1.2.2.2.1.toNat]?).bind λx15=>some (.inl (((),x15,(),(acK .i64 (s.1.2.2.2.1+1)),()),s.2))) none) (iteP (0<=s.1.2.2.2.1/\s.1.2.2.2.1< (s.2.2.1.length:Int)) ((s.2.2.1[s.1.2.2.2.1.toNat]?).bind λx16=>iteP (0<=x16) ((s.2.1.1.2.1[x16.toNat]?).bind λx17=>iteP (0<=s.1.2.1) ((s.2.1.1.2.1[s.1.2.1.toNat]?).bind λx18=>br (decide ((x17.log.length:Int)>(x18.log.length:Int))) (iteP (0<=s.1.2.2.2.1/\s.1.2.2.2.1< (s.2.2.1.length:Int)) ((s.2.2.1[s.1.2.2.2.1.toNat]?).bind λx19=>some (.inl (((),x19,(),(acK .i64 (s.1.2.2.2.1+1)),()),s.2))) none) (some (.inl (((),s.1.2.1,(),(acK .i64 (s.1.2.2.2.1+1)),()),s.2)))) none) none) none)) (some (.inr ((s.1.2.1,()),(()),(()))))
def Ml:=mu E8
def Td[dp] :=F6 Tryz.f211 [0] O6 E8 [] [] (by kernel_rfl) λs=>by simp only[E8,tm];kernel_rfl
def EW(a0:oZ)(a1:Int):Option (Int×Unit):=
 (EX a0 a1).bind λy1=>(Ml (((),(-1),(),0,()),((a0.now,a0.servers,a0.sides,a0.master.configs,a0.master.activated,a0.masterUp,a0.lease.epoch,a0.lease.holder,a0.lease.ends,a0.places,()),()),y1.1,())).bind λe21=>some e21.1
def UE[dp] :=Dh 211 Tryz.f211 Ki Iv (λx=>EW x.1 x.2.1) [UP] [Td] (by kernel_rfl) λx=>by simp only[EW,tm];kernel_rfl
def II(a0:o4)(a1:Int):Option ((List pZ)×Unit):=
 (D8 a0.config a1).bind λy1=>(EF a0.learned).bind λy2=>br (y1.1==1) ((Dx a0).bind λy3=>br (decide ((y3.1.length:Int)>(y2.1.length:Int))) (some (y3.1,())) (some (y2.1,()))) (br (y1.1==2) ((Dx a0).bind λy4=>br (decide ((y4.1.length:Int)>(y2.1.length:Int))) (some (y4.1,())) (some (y2.1,()))) (some (y2.1,())))
def XS[dp] :=Dh 250 Tryz.f250 TU TV (λx=>II x.1 x.2.1) [Ns,I5,Jk] [] (by kernel_rfl) λx=>by simp only[II,tm];kernel_rfl
def LY(a0:Int)(a1:List pZ):Option (Bool×Unit):=
 (DU a1).bind λy1=>br y1.1 (br (decide ((a1.length:Int)<=3)) ((CY a0 0 (acK .i64 (16-(a1.length:Int)))).bind λy2=>br y2.1 (br (a0==0) (some (true,())) (some (((a1.length:Int)==3),()))) (some (false,()))) (some (false,()))) (some (false,()))
def XR[dp] :=Dh 268 Tryz.f268 aaR [.b] (λx=>LY x.1 x.2.1) [LL,DT] [] (by kernel_rfl) λx=>by simp only[LY,tm];kernel_rfl
abbrev NF:LX:=⟨⟨[Ly,(1,.cl (.ro (.st .entry))),Mu],[],[],0,30⟩,[(.ext 0,⟨[Mu],[],[],0,30⟩)],[],[0,1,5],[5]⟩
def Fu(s: (List pZ×List pZ×Int×Unit)×Unit×Unit):NF.R:=
 br (decide (s.1.2.2.1< (s.1.1.length:Int))) (br (decide (s.1.2.2.1< (s.1.2.1.length:Int))) (iteP (0<=s.1.2.2.1) ((s.1.1[s.1.2.2.1.toNat]?).bind λx4=>iteP (0<=s.1.2.2.1) ((s.1.2.1[s.1.2.2.1.toNat]?).bind λx5=>br ((x4.epoch==x5.epoch)&&((x4.op.client==x5.op.client)&&((x4.op.seq==x5.op.seq)&&((x4.op.kind==x5.op.kind)&&((x4.op.object==x5.op.object)&&((x4.op.old==x5.op.old)&&((x4.op.value==x5.op.value)&&true))))))) (some (.inl ((s.1.1,s.1.2.1,(acK .i64 (s.1.2.2.1+1)),()),(()),(())))) (some (.inr (s.1.2.2,(()),(()))))) none) none) (some (.inr (s.1.2.2,(()),(()))))) (some (.inr (s.1.2.2,(()),(()))))
def KE:=mu Fu
def Q3[dp] :=F6 Tryz.f127 [0] NF Fu [] [] (by kernel_rfl) λs=>by simp only[Fu,tm];kernel_rfl
def Gi(a0:List pZ)(a1:List pZ):Option (Int×Unit):=
 (KE ((a0,a1,0,()),(()),(()))).bind λe6=>some e6.1
def Sv[dp] :=Dh 127 Tryz.f127 aaS Iv (λx=>Gi x.1 x.2.1) [] [Q3] (by kernel_rfl) λx=>by simp only[Gi,tm];kernel_rfl
def HA(a0:List pZ)(a1:Int)(a2:List pZ):Option ((List pZ)×Bool×Unit):=
 (DU a0).bind λy1=>br (!y1.1) (some (([]:List pZ),false,())) ((LY a1 a2).bind λy2=>br (!y2.1) (some (([]:List pZ),false,())) (br (decide (a1>(a0.length:Int))) (some (([]:List pZ),false,())) (iteP (0<=a1/\a1<=(a0.length:Int)/\(a0.length:Int)<=(a0.length:Int)) ((Gi ((a0.drop a1.toNat).take ((a0.length:Int).toNat-a1.toNat)) a2).bind λy3=>br (decide (y3.1< (if (a2.length:Int)< (acK .i64 ((a0.length:Int)-a1)) then (a2.length:Int) else (acK .i64 ((a0.length:Int)-a1))))) (some (([]:List pZ),false,())) ((EF a0).bind λy4=>iteP (0<=y3.1/\y3.1<=(a2.length:Int)/\(a2.length:Int)<=(a2.length:Int)) (iteP ((y4.1++((a2.drop y3.1.toNat).take ((a2.length:Int).toNat-y3.1.toNat))).length*56<=2 ^ 40) ((DU (y4.1++((a2.drop y3.1.toNat).take ((a2.length:Int).toNat-y3.1.toNat)))).bind λy5=>br (!y5.1) (some (([]:List pZ),false,())) (some ((y4.1++((a2.drop y3.1.toNat).take ((a2.length:Int).toNat-y3.1.toNat))),true,()))) none) none)) none)))
def Wq[dp] :=Dh 249 Tryz.f249 aaT XY (λx=>HA x.1 x.2.1 x.2.2.1) [LL,XR,Sv,I5] [] (by kernel_rfl) λx=>by simp only[HA,tm];kernel_rfl
abbrev Ls:LX:=⟨⟨[Ka,LQ,Un,VP,Y0,PG,ST,(11,.cl (.ptr 2 0)),OX],[Jd,X0,Zg],X2,0,121⟩,[(.ext 2,⟨[Ka,LQ,Un,VP,Y0,PG,ST],[Jd,X0],X2,0,121⟩)],[],[1,2,6,7,8,9,10,11,12],[1,2,6,7,8,9,10]⟩
def ET(s: (Int×Unit×Unit×Bool×Unit×Bool×Int×Unit×Int×Unit)×(MI×QZ×Y8×Unit)×List pZ×List Int×List Int×Unit):Ls.R:=
 br (decide (s.1.2.2.2.2.2.2.2.2.1<5)) (iteP (0<=s.1.2.2.2.2.2.2.2.2.1) ((s.2.1.1.2.1[s.1.2.2.2.2.2.2.2.2.1.toNat]?).bind λx59=>let j66 (p64:List pZ) (p65:Bool):Ls.R:=some (.inl ((s.1.1,(),(),p65,(),s.1.2.2.2.2.2.1,s.1.2.2.2.2.2.2.1,(),(acK .i64 (s.1.2.2.2.2.2.2.2.2.1+1)),()),s.2.1,p64,s.2.2.2));br (!x59.up) (j66 s.2.2.1 s.1.2.2.2.1) ((EG s.2.1.1.2.2.1 s.1.1 s.1.2.2.2.2.2.2.2.2.1).bind λy60=>br (!y60.1) (j66 s.2.2.1 s.1.2.2.2.1) (iteP (0<=s.1.2.2.2.2.2.2.2.2.1) ((s.2.1.1.2.1[s.1.2.2.2.2.2.2.2.2.1.toNat]?).bind λx61=>(II x61 s.1.2.2.2.2.2.2.2.2.1).bind λy62=>(HA y62.1 s.2.1.2.2.1.2.2.2.2.2.2.2.2.1 s.2.1.2.2.1.2.2.2.2.2.2.2.2.2.1).bind λy63=>br y63.2.1 (br (!s.1.2.2.2.1) (j66 y63.1 true) (br (decide ((y63.1.length:Int)>(s.2.2.1.length:Int))) (j66 y63.1 true) (j66 s.2.2.1 s.1.2.2.2.1))) (j66 s.2.2.1 s.1.2.2.2.1)) none))) none) (some (.inr ((s.1.1,(),(),s.1.2.2.2.1,(),s.1.2.2.2.2.2.1,s.1.2.2.2.2.2.2.1,()),(s.2.1.1,s.2.1.2.1,()),s.2.2)))
def Jo:=mu ET
def R2[dp] :=F6 Tryz.f212 [0,0] Ls ET [KB,XS,Wq] [] (by kernel_rfl) λs=>by simp only[ET,tm];kernel_rfl
abbrev Pa:LX:=⟨⟨[Ka,LQ,Un,VP,Y0,PG,ST],[Jd,X0],X2,0,121⟩,[(.ext 0,⟨[Un,VP],[],aag,0,121⟩)],[],[1,2,6,7,8,9,10],[6,7]⟩
def Ep(s: (Int×Unit×Unit×Bool×Unit×Bool×Int×Unit)×(MI×QZ×Unit)×List pZ×List Int×List Int×Unit):Pa.R:=
 br (decide (s.1.2.2.2.2.2.2.1< (s.2.2.2.2.1.length:Int))) (br s.1.2.2.2.2.2.1 ((CP (⟨s.2.1.1.1,s.2.1.1.2.1,s.2.1.1.2.2.1,(⟨s.2.1.1.2.2.2.1,s.2.1.1.2.2.2.2.1⟩:jw),s.2.1.1.2.2.2.2.2.1,(⟨s.2.1.1.2.2.2.2.2.2.1,s.2.1.1.2.2.2.2.2.2.2.1,s.2.1.1.2.2.2.2.2.2.2.2.1⟩:s7),s.2.1.1.2.2.2.2.2.2.2.2.2.1⟩:oZ)).bind λy21=>br y21.1 ((CY s.1.1 0 4).bind λy22=>br y22.1 (iteP (0<=s.1.2.2.2.2.2.2.1/\s.1.2.2.2.2.2.2.1< (s.2.2.2.2.1.length:Int)) ((s.2.2.2.2.1[s.1.2.2.2.2.2.2.1.toNat]?).bind λx23=>iteP (0<=x23) ((s.2.1.1.2.1[x23.toNat]?).bind λx24=>br (!x24.up) (some (.inl ((s.1.1,(),(),s.1.2.2.2.1,(),s.1.2.2.2.2.2.1,(acK .i64 (s.1.2.2.2.2.2.2.1+1)),()),s.2))) (br (!(x24.config.epoch==s.2.1.2.1.1)) (some (.inl ((s.1.1,(),(),s.1.2.2.2.1,(),s.1.2.2.2.2.2.1,(acK .i64 (s.1.2.2.2.2.2.2.1+1)),()),s.2))) (iteP (0<=s.1.2.2.2.2.2.2.1/\s.1.2.2.2.2.2.2.1< (s.2.2.2.2.1.length:Int)) ((s.2.2.2.2.1[s.1.2.2.2.2.2.2.1.toNat]?).bind λx25=>(EG s.2.1.1.2.2.1 s.1.1 x25).bind λy26=>br (!y26.1) (some (.inl ((s.1.1,(),(),s.1.2.2.2.1,(),s.1.2.2.2.2.2.1,(acK .i64 (s.1.2.2.2.2.2.2.1+1)),()),s.2))) ((Jo ((s.1.1,(),(),s.1.2.2.2.1,(),s.1.2.2.2.2.2.1,s.1.2.2.2.2.2.2.1,(),0,()),(s.2.1.1,s.2.1.2.1,(x24.up,x24.intact,x24.version,x24.epoch,x24.config.epoch,x24.config.primary,x24.config.replicas,x24.config.witnesses,x24.first,x24.log,x24.commit,x24.learned,()),()),s.2.2)).bind λe67=>some (.inl ((e67.1.1,(),(),e67.1.2.2.2.1,(),e67.1.2.2.2.2.2.1,(acK .i64 (e67.1.2.2.2.2.2.2.1+1)),()),e67.2)))) none))) none) none) (some (.inr (((),s.1.2.2.2.1,()),(()),s.2.2.1,())))) (some (.inr (((),s.1.2.2.2.1,()),(()),s.2.2.1,())))) (some (.inr (((),s.1.2.2.2.1,()),(()),s.2.2.1,())))) (some (.inr (((),s.1.2.2.2.1,()),(()),s.2.2.1,())))
def J8:=mu Ep
def Tj[dp] :=F6 Tryz.f212 [0] Pa Ep [C2,DT,KB] [R2] (by kernel_rfl) λs=>by simp only[Ep,tm];kernel_rfl
def Ez(a0:oZ)(a1:Int):Option ((List pZ)×Bool×Unit):=
 (C1 a0.master).bind λy1=>(J8 ((a1,(),(),false,(),y1.2.1,0,()),((a0.now,a0.servers,a0.sides,a0.master.configs,a0.master.activated,a0.masterUp,a0.lease.epoch,a0.lease.holder,a0.lease.ends,a0.places,()),(y1.1.epoch,y1.1.primary,(),(),()),()),([]:List pZ),y1.1.replicas,y1.1.witnesses,())).bind λe87=>some (e87.2.2.1,e87.1.2)
def UR[dp] :=Dh 212 Tryz.f212 Ki XY (λx=>Ez x.1 x.2.1) [FX] [Tj] (by kernel_rfl) λx=>by simp only[Ez,tm];kernel_rfl
def EI(a0:oZ)(a1:Int):Option ((List pZ)×Bool×Unit):=
 (CP a0).bind λy1=>br (!y1.1) (some (([]:List pZ),false,())) ((CY a1 0 4).bind λy2=>br (!y2.1) (some (([]:List pZ),false,())) (br (a0.master.activated==0) (some (([]:List pZ),true,())) ((EW a0 a1).bind λy3=>br (decide (y3.1≥0)) (iteP (0<=y3.1) ((a0.servers[y3.1.toNat]?).bind λx4=>(EF x4.log).bind λy5=>some (y5.1,true,())) none) ((Ez a0 a1).bind λy6=>some (y6.1,y6.2.1,())))))
def Vw[dp] :=Dh 118 Tryz.f118 Ki XY (λx=>EI x.1 x.2.1) [C2,DT,UE,I5,UR] [] (by kernel_rfl) λx=>by simp only[EI,tm];kernel_rfl
abbrev NJ:LX:=⟨⟨[Ly,MH],[],[],0,16⟩,[(.ret,⟨[NA],[],[],0,16⟩),(.ext 0,⟨[Ms],[],[],0,16⟩)],[],[0,3],[2]⟩
def Fw(s:abd×Unit×Unit):NJ.R:=
 br (decide (s.1.2.1< (s.1.1.length:Int))) (iteP (0<=s.1.2.1) ((s.1.1[s.1.2.1.toNat]?).bind λx3=>(GS x3.op).bind λy4=>br y4.1 (some (.inr (.inl ((true,()),(()),(()))))) (some (.inl ((s.1.1,(acK .i64 (s.1.2.1+1)),()),(()),(()))))) none) (some (.inr (.inr (((),()),(()),(())))))
def KG:=mu Fw
def Q7[dp] :=F6 Tryz.f119 [0] NJ Fw [Pw] [] (by kernel_rfl) λs=>by simp only[Fw,tm];kernel_rfl
def Dy(a0:List pZ):Option (Bool×Unit):=
 (KG ((a0,0,()),(()),(()))).bind λe5=>Sum.elim (λe5_0=>some e5_0.1) (λ_=>some (false,())) e5
def Mi[dp] :=Dh 119 Tryz.f119 QD [.b] (λx=>Dy x.1) [] [Q7] (by kernel_rfl) λx=>by simp only[Dy,tm];kernel_rfl
def D7(a0:o4)(a1:mD)(a2:Int)(a3:List pZ):Option (o4×Bool×Unit):=
 (D8 a1 a2).bind λy1=>br (y1.1==0) ((Gy a0).bind λy2=>some (y2.1,false,())) ((DU a3).bind λy3=>br (!y3.1) ((Gy a0).bind λy4=>some (y4.1,false,())) ((CY a0.version 1 2).bind λy5=>br (!y5.1) ((Gy a0).bind λy6=>some (y6.1,false,())) ((CY a0.epoch 0 a1.epoch).bind λy7=>br (!y7.1) ((Gy a0).bind λy8=>some (y8.1,false,())) ((Gz a3).bind λy9=>br (decide (y9.1>a1.epoch)) ((Gy a0).bind λy10=>some (y10.1,false,())) (let j18:Option (o4×Bool×Unit):=(Gj a1).bind λy13=>(EF a3).bind λy14=>br (y1.1==3) (iteP (0<=(if (acK .i64 ((a3.length:Int)-3))>0 then (acK .i64 ((a3.length:Int)-3)) else 0)/\(if (acK .i64 ((a3.length:Int)-3))>0 then (acK .i64 ((a3.length:Int)-3)) else 0)<=(a3.length:Int)/\(a3.length:Int)<=(a3.length:Int)) ((EF ((a3.drop (if (acK .i64 ((a3.length:Int)-3))>0 then (acK .i64 ((a3.length:Int)-3)) else 0).toNat).take ((a3.length:Int).toNat-(if (acK .i64 ((a3.length:Int)-3))>0 then (acK .i64 ((a3.length:Int)-3)) else 0).toNat))).bind λy15=>some ((⟨a0.up,true,a0.version,a1.epoch,y13.1,(if (acK .i64 ((a3.length:Int)-3))>0 then (acK .i64 ((a3.length:Int)-3)) else 0),y15.1,(a3.length:Int),([]:List pZ)⟩:o4),true,())) none) (some ((⟨a0.up,true,a0.version,a1.epoch,y13.1,0,y14.1,(a3.length:Int),([]:List pZ)⟩:o4),true,()));br (a0.version==1) ((Dy a3).bind λy11=>br y11.1 ((Gy a0).bind λy12=>some (y12.1,false,())) (j18)) (j18))))))
def Od[dp] :=Dh 120 Tryz.f120 aaU Xk (λx=>D7 x.1 x.2.1 x.2.2.1 x.2.2.2.1) [Ns,QS,LL,DT,QT,Mi,OM,I5] [] (by kernel_rfl) λx=>by simp only[D7,tm];kernel_rfl
def DV(a0:jw)(a1:Int):Option (jw×Bool×Unit):=
 (Kx a0).bind λy1=>(C7 a0).bind λy2=>br (!y2.1) (some (y1.1,false,())) (br (!(a1==(a0.configs.length:Int))) (some (y1.1,false,())) (br (decide (a1<=a0.activated)) (some (y1.1,false,())) (some ((⟨y1.1.configs,a1⟩:jw),true,()))))
def Np[dp] :=Dh 121 Tryz.f121 Xd Xj (λx=>DV x.1 x.2.1) [QR,KU] [] (by kernel_rfl) λx=>by simp only[DV,tm];kernel_rfl
abbrev PI:LX:=⟨⟨[J9,NB,Rq,Rr,Rs,SU,ST],[Jd,Li,TW,WK],WL,0,180⟩,[(.ret,⟨[J9,NB,MH,Rq,Rr,Rs,SU],[Jd,TW,TW,WK],WL,0,180⟩),(.ext 1,⟨[J9,NB,(3,.cl (.dead)),Rq,Rr,Rs,SU],[Jd,Li,TW,WK],WL,0,180⟩)],[],[1,2,4,5,7,9,10],[1,2,3,4,5,7,9]⟩
def F1(s:Y9×(MI×LR×LR×QZ×Unit)×List pZ×List Int×List o4×List Int×List mD×List tc×List Int×List Int×Unit):PI.R:=
 br (decide (s.1.2.2.2.2.2.2.1< (s.2.2.2.1.length:Int))) (iteP (0<=s.1.2.2.2.2.2.2.1/\s.1.2.2.2.2.2.2.1< (s.2.2.2.1.length:Int)) ((s.2.2.2.1[s.1.2.2.2.2.2.2.1.toNat]?).bind λx43=>iteP (0<=x43) ((s.2.1.1.2.1[x43.toNat]?).bind λx44=>br (!x44.up) (some (.inr (.inl (((),(),10,(),(),(),(),()),(s.2.1.1,s.2.1.2.2.1,s.2.1.2.2),s.2.2)))) (iteP (0<=s.1.2.2.2.2.2.2.1/\s.1.2.2.2.2.2.2.1< (s.2.2.2.1.length:Int)) ((s.2.2.2.1[s.1.2.2.2.2.2.2.1.toNat]?).bind λx45=>iteP (0<=x45) ((s.2.1.1.2.2.1[x45.toNat]?).bind λx46=>br (!(x46==0)) (some (.inr (.inl (((),(),10,(),(),(),(),()),(s.2.1.1,s.2.1.2.2.1,s.2.1.2.2),s.2.2)))) (some (.inl (((),(),(),(),(),(),(acK .i64 (s.1.2.2.2.2.2.2.1+1)),()),s.2)))) none) none)) none) none) (some (.inr (.inr (((),(),(),(),(),(),(),()),s.2))))
def MZ:=mu F1
def T0[dp] :=F6 Tryz.f34 [0] PI F1 [] [] (by kernel_rfl) λs=>by simp only[F1,tm];kernel_rfl
abbrev M6:LX:=⟨⟨[J9,NB,Rq,Rr,Rs,SU,SR],[Jd,Li,TW,WK],WL,0,180⟩,[(.ret,⟨[J9,NB,MH,Rq,Rr,Rs,SU],[Jd,TW,TW,WK],WL,0,180⟩),(.ext 3,⟨[J9,NB,(3,.cl (.dead)),Rq,Rr,Rs,SU],[Jd,Li,TW,WK],WL,0,180⟩)],[],[1,2,4,5,7,9,11],[1,2,3,4,5,7,9]⟩
def EN(s:Y9×(MI×LR×LR×QZ×Unit)×List pZ×List Int×List o4×List Int×List mD×List tc×List Int×List Int×Unit):M6.R:=
 br (decide (s.1.2.2.2.2.2.2.1< (s.2.2.2.1.length:Int))) (iteP (0<=s.1.2.2.2.2.2.2.1/\s.1.2.2.2.2.2.2.1< (s.2.2.2.1.length:Int)) ((s.2.2.2.1[s.1.2.2.2.2.2.2.1.toNat]?).bind λx81=>iteP (0<=x81) ((s.2.1.1.2.1[x81.toNat]?).bind λx82=>let j84:M6.R:=some (.inl (((),(),(),(),(),(),(acK .i64 (s.1.2.2.2.2.2.2.1+1)),()),s.2));br (x82.version==1) ((Dy s.2.2.1).bind λy83=>br y83.1 (some (.inr (.inl (((),(),6,(),(),(),(),()),(s.2.1.1,s.2.1.2.2.1,s.2.1.2.2),s.2.2)))) (j84)) (j84)) none) none) (some (.inr (.inr (((),(),(),(),(),(),(),()),s.2))))
def Jb:=mu EN
def T2[dp] :=F6 Tryz.f34 [1] M6 EN [Mi] [] (by kernel_rfl) λs=>by simp only[EN,tm];kernel_rfl
abbrev PJ:LX:=⟨⟨[J9,NB,Rq,Rr,Rs,SU,OX],[Jd,Li,TW,WK],WL,0,180⟩,[(.ext 5,⟨[J9,NB,Rq,Rr],[Jd,Li,VS,[.int .i64,.int .i64,.own 4 (.i .i64),.own 5 (.i .i64)]],[.st .server,.i .i64,.st .config,.st .place,.i .i64,.i .i64],0,180⟩)],[],[1,2,4,5,7,9,12],[1,2,4,5]⟩
def F2(s:Y9×(MI×LR×LR×QZ×Unit)×List pZ×List Int×List o4×List Int×List mD×List tc×List Int×List Int×Unit):PJ.R:=
 br (decide (s.1.2.2.2.2.2.2.1< (s.2.2.2.1.length:Int))) (iteP (0<=s.1.2.2.2.2.2.2.1/\s.1.2.2.2.2.2.2.1< (s.2.2.2.1.length:Int)) ((s.2.2.2.1[s.1.2.2.2.2.2.2.1.toNat]?).bind λx119=>iteP (0<=s.1.2.2.2.2.2.2.1/\s.1.2.2.2.2.2.2.1< (s.2.2.2.1.length:Int)) ((s.2.2.2.1[s.1.2.2.2.2.2.2.1.toNat]?).bind λx120=>iteP (0<=x120/\x120< (s.2.2.2.2.1.length:Int)) ((s.2.2.2.2.1[x120.toNat]?).bind λx121=>iteP (0<=s.1.2.2.2.2.2.2.1/\s.1.2.2.2.2.2.2.1< (s.2.2.2.1.length:Int)) ((s.2.2.2.1[s.1.2.2.2.2.2.2.1.toNat]?).bind λx122=>(s.2.2.2.2.1[x120.toNat]?).bind λx123=>iteP (0+x121.config.replicas.length<=x123.config.replicas.length) ((s.2.2.2.2.1[x120.toNat]?).bind λx124=>iteP (0+x121.config.witnesses.length<=x124.config.witnesses.length) ((s.2.2.2.2.1[x120.toNat]?).bind λx125=>iteP (0+x121.log.length<=x125.log.length) ((s.2.2.2.2.1[x120.toNat]?).bind λx126=>iteP (0+x121.learned.length<=x126.learned.length) ((D7 (⟨x121.up,x121.intact,x121.version,x121.epoch,(⟨x121.config.epoch,x121.config.primary,((x123.config.replicas.drop 0).take x121.config.replicas.length),((x124.config.witnesses.drop 0).take x121.config.witnesses.length)⟩:mD),x121.first,((x125.log.drop 0).take x121.log.length),x121.commit,((x126.learned.drop 0).take x121.learned.length)⟩:o4) (⟨s.2.1.2.2.2.1.1,s.2.1.2.2.2.1.2.1,s.2.2.2.2.2.2.2.2.1,s.2.2.2.2.2.2.2.2.2.1⟩:mD) x122 s.2.2.1).bind λy127=>iteP (0<=x119/\x119< (s.2.2.2.2.1.length:Int)) ((s.2.2.2.2.1[x119.toNat]?).bind λ_=>some (.inl (((),(),(),(),(),(),(acK .i64 (s.1.2.2.2.2.2.2.1+1)),()),s.2.1,s.2.2.1,s.2.2.2.1,(s.2.2.2.2.1.set x119.toNat y127.1),s.2.2.2.2.2))) none) none) none) none) none) none) none) none) none) (some (.inr (((),(),(),(),()),s.2.1,s.2.2.2.2)))
def KV:=mu F2
def T3[dp] :=F6 Tryz.f34 [2] PJ F2 [Od] [] (by kernel_rfl) λs=>by simp only[F2,tm];kernel_rfl
def FT(a0:oZ):Option (oZ×Int×Unit):=
 (DF a0).bind λy1=>(FB a0.master).bind λy2=>(CP a0).bind λy3=>br (!y3.1) (some (y1.1,1,())) (br (!y2.2.1) (some (y1.1,1,())) (br (y2.1.epoch==a0.master.activated) (some (y1.1,1,())) (br (decide ((acK .i64 (a0.masterUp*2))<=3)) (some (y1.1,8,())) (iteP (0<=y2.1.primary) ((a0.servers[y2.1.primary.toNat]?).bind λx4=>br (!x4.up) (some (y1.1,2,())) (iteP (0<=y2.1.primary) ((a0.sides[y2.1.primary.toNat]?).bind λx5=>br (!(x5==0)) (some (y1.1,10,())) ((GU a0.lease a0.now).bind λy6=>br (!y6.1) (some (y1.1,7,())) ((Eu a0 y2.1.primary y2.1.epoch).bind λy7=>(EI a0 y2.1.primary).bind λy8=>br (!y8.2.1) (some (y7.1,9,())) ((DN y2.1).bind λy9=>(MZ (((),(),(),(),(),(),0,()),((a0.now,a0.servers,a0.sides,a0.master.configs,a0.master.activated,a0.masterUp,a0.lease.epoch,a0.lease.holder,a0.lease.ends,a0.places,()),(0,(),(),(),0,0,0,0,0,(),()),(y7.1.now,(),(),(),y7.1.master.activated,y7.1.masterUp,y7.1.lease.epoch,y7.1.lease.holder,y7.1.lease.ends,(),()),(y2.1.epoch,y2.1.primary,(),(),()),()),y8.1,y9.1,y7.1.servers,y7.1.sides,y7.1.master.configs,y7.1.places,y2.1.replicas,y2.1.witnesses,())).bind λe47=>Sum.elim (λe47_0=>some ((⟨e47_0.2.1.2.1.1,e47_0.2.2.2.2.1,e47_0.2.2.2.2.2.1,(⟨e47_0.2.2.2.2.2.2.1,e47_0.2.1.2.1.2.2.2.2.1⟩:jw),e47_0.2.1.2.1.2.2.2.2.2.1,(⟨e47_0.2.1.2.1.2.2.2.2.2.2.1,e47_0.2.1.2.1.2.2.2.2.2.2.2.1,e47_0.2.1.2.1.2.2.2.2.2.2.2.2.1⟩:s7),e47_0.2.2.2.2.2.2.2.1⟩:oZ),e47_0.1.2.2.1,())) (λe47_1=>(Jb (((),(),(),(),(),(),0,()),e47_1.2)).bind λe85=>Sum.elim (λe85_0=>some ((⟨e85_0.2.1.2.1.1,e85_0.2.2.2.2.1,e85_0.2.2.2.2.2.1,(⟨e85_0.2.2.2.2.2.2.1,e85_0.2.1.2.1.2.2.2.2.1⟩:jw),e85_0.2.1.2.1.2.2.2.2.2.1,(⟨e85_0.2.1.2.1.2.2.2.2.2.2.1,e85_0.2.1.2.1.2.2.2.2.2.2.2.1,e85_0.2.1.2.1.2.2.2.2.2.2.2.2.1⟩:s7),e85_0.2.2.2.2.2.2.2.1⟩:oZ),e85_0.1.2.2.1,())) (λe85_1=>(KV (((),(),(),(),(),(),0,()),e85_1.2)).bind λe130=>(DV (⟨e130.2.1.1.2.2.2.1,e130.2.1.1.2.2.2.2.1⟩:jw) e130.2.1.2.2.2.1.1).bind λy131=>some ((⟨e130.2.1.2.2.1.1,e130.2.2.1,e130.2.2.2.1,y131.1,e130.2.1.2.2.1.2.2.2.2.2.1,(⟨0,0,0⟩:s7),e130.2.2.2.2.2.1⟩:oZ),0,())) e85) e47)))) none)) none))))
def PW[dp] :=Dh 34 Tryz.f34 QY M4 (λx=>FT x.1) [Ed,UI,C2,Px,TM,Vw,Ip,Np] [T0,T2,T3] (by kernel_rfl) λx=>by simp only[FT,tm];kernel_rfl
def GA(a0:oZ)(a1:Int):Option (Bool×Unit):=
 (CP a0).bind λy1=>br y1.1 ((CY a1 0 4).bind λy2=>some (y2.1,())) (some (false,()))
def Nu[dp] :=Dh 307 Tryz.f307 Ki [.b] (λx=>GA x.1 x.2.1) [C2,DT] [] (by kernel_rfl) λx=>by simp only[GA,tm];kernel_rfl
def I1(a0:oZ)(a1:Int):Option (oZ×Int×Unit):=
 (DF a0).bind λy1=>(GA a0 a1).bind λy2=>br (!y2.1) (some (y1.1,1,())) (iteP (0<=a1) ((a0.servers[a1.toNat]?).bind λx3=>br (!x3.up) (some (y1.1,2,())) (iteP (0<=a1/\a1< (y1.1.servers.length:Int)) ((y1.1.servers[a1.toNat]?).bind λx4=>some ((⟨y1.1.now,(y1.1.servers.set a1.toNat (⟨false,x4.intact,x4.version,x4.epoch,x4.config,x4.first,x4.log,x4.commit,x4.learned⟩:o4)),y1.1.sides,y1.1.master,y1.1.masterUp,y1.1.lease,y1.1.places⟩:oZ),0,())) none)) none)
def TJ[dp] :=Dh 291 Tryz.f291 Ki M4 (λx=>I1 x.1 x.2.1) [Ed,Nu] [] (by kernel_rfl) λx=>by simp only[I1,tm];kernel_rfl
def HI(a0:oZ)(a1:Int):Option (oZ×Int×Unit):=
 (DF a0).bind λy1=>(GA a0 a1).bind λy2=>br (!y2.1) (some (y1.1,1,())) (iteP (0<=a1) ((a0.servers[a1.toNat]?).bind λx3=>br x3.up (some (y1.1,1,())) (iteP (0<=a1/\a1< (y1.1.servers.length:Int)) ((y1.1.servers[a1.toNat]?).bind λx4=>some ((⟨y1.1.now,(y1.1.servers.set a1.toNat (⟨true,x4.intact,x4.version,x4.epoch,x4.config,x4.first,x4.log,x4.commit,x4.learned⟩:o4)),y1.1.sides,y1.1.master,y1.1.masterUp,y1.1.lease,y1.1.places⟩:oZ),0,())) none)) none)
def RJ[dp] :=Dh 292 Tryz.f292 Ki M4 (λx=>HI x.1 x.2.1) [Ed,Nu] [] (by kernel_rfl) λx=>by simp only[HI,tm];kernel_rfl
def LH(a0:o4):Option (o4×Unit):=
 some ((⟨a0.up,false,a0.version,0,(⟨0,0,([]:List Int),([]:List Int)⟩:mD),0,([]:List pZ),0,([]:List pZ)⟩:o4),())
def UQ[dp] :=Dh 308 Tryz.f308 Ul Z9 (λx=>LH x.1) [] [] (by kernel_rfl) λx=>by simp only[LH,tm];kernel_rfl
def Mb(a0:oZ)(a1:Int):Option (oZ×Int×Unit):=
 (DF a0).bind λy1=>(GA a0 a1).bind λy2=>br (!y2.1) (some (y1.1,1,())) (iteP (0<=a1) ((a0.servers[a1.toNat]?).bind λx3=>(LH x3).bind λy4=>iteP (0<=a1/\a1< (y1.1.servers.length:Int)) ((y1.1.servers[a1.toNat]?).bind λ_=>some ((⟨y1.1.now,(y1.1.servers.set a1.toNat y4.1),y1.1.sides,y1.1.master,y1.1.masterUp,y1.1.lease,y1.1.places⟩:oZ),0,())) none) none)
def Wr[dp] :=Dh 293 Tryz.f293 Ki M4 (λx=>Mb x.1 x.2.1) [Ed,Nu,UQ] [] (by kernel_rfl) λx=>by simp only[Mb,tm];kernel_rfl
def Mc(a0:List Int)(a1:Int)(a2:Int):Option ((List Int)×Bool×Unit):=
 iteP ((([]:List Int)++a0).length*8<=2 ^ 40) ((FU a0).bind λy1=>br (!y1.1) (some ((([]:List Int)++a0),false,())) ((CY a1 0 4).bind λy2=>br (!y2.1) (some ((([]:List Int)++a0),false,())) ((CY a2 0 3).bind λy3=>br (!y3.1) (some ((([]:List Int)++a0),false,())) (iteP (0<=a1/\a1< ((([]:List Int)++a0).length:Int)) (((([]:List Int)++a0)[a1.toNat]?).bind λ_=>some (((([]:List Int)++a0).set a1.toNat a2),true,())) none)))) none
def Ws[dp] :=Dh 309 Tryz.f309 YV [.ls (.i .i64),.b] (λx=>Mc x.1 x.2.1 x.2.2.1) [N0,DT] [] (by kernel_rfl) λx=>by simp only[Mc,tm];kernel_rfl
def JS(a0:oZ)(a1:Int)(a2:Int):Option (oZ×Int×Unit):=
 (DF a0).bind λy1=>(Mc a0.sides a1 a2).bind λy2=>(CP a0).bind λy3=>br (!y3.1) (some (y1.1,1,())) (br (!y2.2.1) (some (y1.1,1,())) (some ((⟨y1.1.now,y1.1.servers,y2.1,y1.1.master,y1.1.masterUp,y1.1.lease,y1.1.places⟩:oZ),0,())))
def UK[dp] :=Dh 294 Tryz.f294 P1 M4 (λx=>JS x.1 x.2.1 x.2.2.1) [Ed,Ws,C2] [] (by kernel_rfl) λx=>by simp only[JS,tm];kernel_rfl
def JW(a0:oZ)(a1:Int):Option (oZ×Int×Unit):=
 (DF a0).bind λy1=>(CP a0).bind λy2=>br (!y2.1) (some (y1.1,1,())) ((CY a1 0 3).bind λy3=>br (!y3.1) (some (y1.1,1,())) (some ((⟨y1.1.now,y1.1.servers,y1.1.sides,y1.1.master,a1,y1.1.lease,y1.1.places⟩:oZ),0,())))
def UO[dp] :=Dh 295 Tryz.f295 Ki M4 (λx=>JW x.1 x.2.1) [Ed,C2,DT] [] (by kernel_rfl) λx=>by simp only[JW,tm];kernel_rfl
def Ih(a0:oZ)(a1:Int):Option (oZ×Int×Unit):=
 (DF a0).bind λy1=>(CP a0).bind λy2=>br (!y2.1) (some (y1.1,1,())) ((CY a1 0 (acK .i64 (999-a0.now))).bind λy3=>br (!y3.1) (some (y1.1,1,())) (some ((⟨(acK .i64 (a0.now+a1)),y1.1.servers,y1.1.sides,y1.1.master,y1.1.masterUp,y1.1.lease,y1.1.places⟩:oZ),0,())))
def Sz[dp] :=Dh 59 Tryz.f59 Ki M4 (λx=>Ih x.1 x.2.1) [Ed,C2,DT] [] (by kernel_rfl) λx=>by simp only[Ih,tm];kernel_rfl
def K6(a0:oZ)(a1:Int)(a2:Int):Option (Bool×Unit):=
 (CP a0).bind λy1=>br (!y1.1) (some (false,())) ((EG a0.sides a1 a2).bind λy2=>br (!y2.1) (some (false,())) (br (a1==a2) (some (false,())) (iteP (0<=a1) ((a0.servers[a1.toNat]?).bind λx3=>(D8 x3.config a1).bind λy4=>br x3.up (iteP (0<=a2) ((a0.servers[a2.toNat]?).bind λx5=>br x5.up (br (y4.1==1) (br (x3.config.epoch==a0.master.activated) ((D8 x3.config a2).bind λy6=>some ((y6.1==0),())) (some (false,()))) (br (y4.1==2) (br (x3.config.epoch==a0.master.activated) ((D8 x3.config a2).bind λy7=>some ((y7.1==0),())) (some (false,()))) (some (false,())))) (some (false,()))) none) (some (false,()))) none)))
def VA[dp] :=Dh 313 Tryz.f313 P1 [.b] (λx=>K6 x.1 x.2.1 x.2.2.1) [C2,KB,Ns] [] (by kernel_rfl) λx=>by simp only[K6,tm];kernel_rfl
abbrev M7:LX:=⟨⟨[(0,.cl (.int .i64)),Xf,SQ],[],[],0,31⟩,[(.ext 0,⟨[Xf,SQ],[],[],0,31⟩)],[],[0,3,4],[3,4]⟩
def KK(s: (Int×ByteArray×Bool×Unit)×Unit×Unit):M7.R:=
 br (!(s.1.1==0)) (let j5 (p4:Int):M7.R:=iteP (0< ([(acK .u8 (acK .i64 (48+p4)))]:List Int).length/\0+([(acK .u8 (acK .i64 (48+p4)))]:List Int).length<=([(acK .u8 (acK .i64 (48+p4)))]:List Int).length) (iteP ((zY ((([(acK .u8 (acK .i64 (48+p4)))]:List Int).drop 0).take (([(acK .u8 (acK .i64 (48+p4)))]:List Int).length))).size+s.1.2.1.size<=2 ^ 40) (some (.inl (((acK .i64 (Int.tdiv s.1.1 10)),((zY ((([(acK .u8 (acK .i64 (48+p4)))]:List Int).drop 0).take (([(acK .u8 (acK .i64 (48+p4)))]:List Int).length)))++s.1.2.1),s.1.2.2),(()),(())))) none) none;br (decide ((Int.tmod s.1.1 10)<0)) (j5 (acK .i64 (0-(Int.tmod s.1.1 10)))) (j5 (Int.tmod s.1.1 10))) (some (.inr (s.1.2,(()),(()))))
def TO:=mu KK
def T5[dp] :=F6 Tryz.f320 [0] M7 KK [] [] (by kernel_rfl) λs=>by simp only[KK,tm];kernel_rfl
def Fi(a0:Int):Option (ByteArray×Unit):=
 br (a0==0) (some ((⟨⟨[48]⟩⟩:ByteArray),())) ((TO ((a0,ByteArray.empty,(decide (a0<0)),()),(()),(()))).bind λe6=>br e6.1.2.1 (iteP ((⟨⟨[45]⟩⟩:ByteArray).size+e6.1.1.size<=2 ^ 40) (some (((⟨⟨[45]⟩⟩:ByteArray)++e6.1.1),())) none) (some (e6.1.1,())))
def Rd[dp] :=Dh 320 Tryz.f320 UY [.s] (λx=>Fi x.1) [] [T5] (by kernel_rfl) λx=>by simp only[Fi,tm];kernel_rfl
def Ma(a0:Op):Option (ByteArray×Unit):=
 (DM a0).bind λy1=>br (!y1.1) (some (ByteArray.empty,())) ((Fi a0.client).bind λy2=>iteP (y2.1.size+(⟨⟨[46]⟩⟩:ByteArray).size<=2 ^ 40) ((Fi a0.seq).bind λy3=>iteP ((y2.1++(⟨⟨[46]⟩⟩:ByteArray)).size+y3.1.size<=2 ^ 40) (iteP (((y2.1++(⟨⟨[46]⟩⟩:ByteArray))++y3.1).size+(⟨⟨[32]⟩⟩:ByteArray).size<=2 ^ 40) (br (a0.kind==1) (iteP ((((y2.1++(⟨⟨[46]⟩⟩:ByteArray))++y3.1)++(⟨⟨[32]⟩⟩:ByteArray)).size+(⟨⟨[119,114,105,116,101,32]⟩⟩:ByteArray).size<=2 ^ 40) ((Fi a0.object).bind λy4=>iteP (((((y2.1++(⟨⟨[46]⟩⟩:ByteArray))++y3.1)++(⟨⟨[32]⟩⟩:ByteArray))++(⟨⟨[119,114,105,116,101,32]⟩⟩:ByteArray)).size+y4.1.size<=2 ^ 40) (iteP ((((((y2.1++(⟨⟨[46]⟩⟩:ByteArray))++y3.1)++(⟨⟨[32]⟩⟩:ByteArray))++(⟨⟨[119,114,105,116,101,32]⟩⟩:ByteArray))++y4.1).size+(⟨⟨[32]⟩⟩:ByteArray).size<=2 ^ 40) ((Fi a0.value).bind λy5=>iteP (((((((y2.1++(⟨⟨[46]⟩⟩:ByteArray))++y3.1)++(⟨⟨[32]⟩⟩:ByteArray))++(⟨⟨[119,114,105,116,101,32]⟩⟩:ByteArray))++y4.1)++(⟨⟨[32]⟩⟩:ByteArray)).size+y5.1.size<=2 ^ 40) (some ((((((((y2.1++(⟨⟨[46]⟩⟩:ByteArray))++y3.1)++(⟨⟨[32]⟩⟩:ByteArray))++(⟨⟨[119,114,105,116,101,32]⟩⟩:ByteArray))++y4.1)++(⟨⟨[32]⟩⟩:ByteArray))++y5.1),())) none) none) none) none) (iteP ((((y2.1++(⟨⟨[46]⟩⟩:ByteArray))++y3.1)++(⟨⟨[32]⟩⟩:ByteArray)).size+(⟨⟨[115,119,97,112,32]⟩⟩:ByteArray).size<=2 ^ 40) ((Fi a0.object).bind λy6=>iteP (((((y2.1++(⟨⟨[46]⟩⟩:ByteArray))++y3.1)++(⟨⟨[32]⟩⟩:ByteArray))++(⟨⟨[115,119,97,112,32]⟩⟩:ByteArray)).size+y6.1.size<=2 ^ 40) (iteP ((((((y2.1++(⟨⟨[46]⟩⟩:ByteArray))++y3.1)++(⟨⟨[32]⟩⟩:ByteArray))++(⟨⟨[115,119,97,112,32]⟩⟩:ByteArray))++y6.1).size+(⟨⟨[32]⟩⟩:ByteArray).size<=2 ^ 40) ((Fi a0.old).bind λy7=>iteP (((((((y2.1++(⟨⟨[46]⟩⟩:ByteArray))++y3.1)++(⟨⟨[32]⟩⟩:ByteArray))++(⟨⟨[115,119,97,112,32]⟩⟩:ByteArray))++y6.1)++(⟨⟨[32]⟩⟩:ByteArray)).size+y7.1.size<=2 ^ 40) (iteP ((((((((y2.1++(⟨⟨[46]⟩⟩:ByteArray))++y3.1)++(⟨⟨[32]⟩⟩:ByteArray))++(⟨⟨[115,119,97,112,32]⟩⟩:ByteArray))++y6.1)++(⟨⟨[32]⟩⟩:ByteArray))++y7.1).size+(⟨⟨[32]⟩⟩:ByteArray).size<=2 ^ 40) ((Fi a0.value).bind λy8=>iteP (((((((((y2.1++(⟨⟨[46]⟩⟩:ByteArray))++y3.1)++(⟨⟨[32]⟩⟩:ByteArray))++(⟨⟨[115,119,97,112,32]⟩⟩:ByteArray))++y6.1)++(⟨⟨[32]⟩⟩:ByteArray))++y7.1)++(⟨⟨[32]⟩⟩:ByteArray)).size+y8.1.size<=2 ^ 40) (some ((((((((((y2.1++(⟨⟨[46]⟩⟩:ByteArray))++y3.1)++(⟨⟨[32]⟩⟩:ByteArray))++(⟨⟨[115,119,97,112,32]⟩⟩:ByteArray))++y6.1)++(⟨⟨[32]⟩⟩:ByteArray))++y7.1)++(⟨⟨[32]⟩⟩:ByteArray))++y8.1),())) none) none) none) none) none) none)) none) none) none)
def Wp[dp] :=Dh 321 Tryz.f321 VI [.s] (λx=>Ma x.1) [Ld,Rd] [] (by kernel_rfl) λx=>by simp only[Ma,tm];kernel_rfl
abbrev M8:LX:=⟨⟨[Ly,Xf,LP],[],[],0,38⟩,[(.ext 0,⟨[Xf],[],[],0,38⟩)],[],[0,3,4],[3]⟩
def KL(s: (List pZ×ByteArray×Int×Unit)×Unit×Unit):M8.R:=
 br (decide (s.1.2.2.1< (s.1.1.length:Int))) (let j10 (p5:ByteArray):M8.R:=iteP (0<=s.1.2.2.1) ((s.1.1[s.1.2.2.1.toNat]?).bind λx6=>(Fi x6.epoch).bind λy7=>iteP (p5.size+y7.1.size<=2 ^ 40) (iteP ((p5++y7.1).size+(⟨⟨[58]⟩⟩:ByteArray).size<=2 ^ 40) (iteP (0<=s.1.2.2.1) ((s.1.1[s.1.2.2.1.toNat]?).bind λx8=>(Ma x8.op).bind λy9=>iteP (((p5++y7.1)++(⟨⟨[58]⟩⟩:ByteArray)).size+y9.1.size<=2 ^ 40) (some (.inl ((s.1.1,(((p5++y7.1)++(⟨⟨[58]⟩⟩:ByteArray))++y9.1),(acK .i64 (s.1.2.2.1+1)),()),(()),(())))) none) none) none) none) none;br (decide (s.1.2.2.1>0)) (iteP (s.1.2.1.size+(⟨⟨[59]⟩⟩:ByteArray).size<=2 ^ 40) (j10 (s.1.2.1++(⟨⟨[59]⟩⟩:ByteArray))) none) (j10 s.1.2.1)) (some (.inr ((s.1.2.1,()),(()),(()))))
def TP:=mu KL
def T6[dp] :=F6 Tryz.f319 [0] M8 KL [Rd,Wp] [] (by kernel_rfl) λs=>by simp only[KL,tm];kernel_rfl
def KZ(a0:List pZ):Option (ByteArray×Unit):=
 (DU a0).bind λy1=>br (!y1.1) (some (ByteArray.empty,())) (br ((a0.length:Int)==0) (some ((⟨⟨[110,111,110,101]⟩⟩:ByteArray),())) ((TP ((a0,ByteArray.empty,0,()),(()),(()))).bind λe11=>some e11.1))
def Vr[dp] :=Dh 319 Tryz.f319 QD [.s] (λx=>KZ x.1) [LL] [T6] (by kernel_rfl) λx=>by simp only[KZ,tm];kernel_rfl
abbrev QG:LX:=⟨⟨[(0,.cl (.str)),MH,LP],[],[],0,21⟩,[(.ext 0,⟨[MH],[],[],0,21⟩)],[],[0,3,4],[3]⟩
def LC(s: (ByteArray×Int×Int×Unit)×Unit×Unit):QG.R:=
 br (decide (s.1.2.2.1< (s.1.1.size:Int))) (iteP (0<=s.1.2.2.1) ((s.1.1[s.1.2.2.1.toNat]?).bind λx4=>some (.inl ((s.1.1,(Int.tmod (acK .i64 ((acK .i64 ((acK .i64 (s.1.2.1*257))+(acK .i64 (x4.toNat:Int))))+1)) 9949),(acK .i64 (s.1.2.2.1+1)),()),(()),(())))) none) (some (.inr ((s.1.2.1,()),(()),(()))))
def UW:=mu LC
def U3[dp] :=F6 Tryz.f318 [0] QG LC [] [] (by kernel_rfl) λs=>by simp only[LC,tm];kernel_rfl
def L8(a0:ByteArray):Option (Int×Unit):=
 (UW ((a0,5,0,()),(()),(()))).bind λe5=>some e5.1
def Wn[dp] :=Dh 318 Tryz.f318 [.ty (.s)] Iv (λx=>L8 x.1) [] [U3] (by kernel_rfl) λx=>by simp only[L8,tm];kernel_rfl
abbrev O7:LX:=⟨⟨[Ly,Um,LP,Mu],[],F0,0,37⟩,[(.ext 0,⟨[Um],[],F0,0,37⟩)],[],[0,3,4,5],[3]⟩
def JH(s:abi×Unit×List Int×Unit):O7.R:=
 br (decide (s.1.2.2.2.1< (s.1.1.length:Int))) (iteP (0<=s.1.2.2.2.1/\s.1.2.2.2.1<=(acK .i64 (s.1.2.2.2.1+1))/\(acK .i64 (s.1.2.2.2.1+1))<=(s.1.1.length:Int)) ((KZ ((s.1.1.drop s.1.2.2.2.1.toNat).take ((acK .i64 (s.1.2.2.2.1+1)).toNat-s.1.2.2.2.1.toNat))).bind λy6=>(L8 y6.1).bind λy7=>iteP ((s.2.2.1++([(Int.tmod (acK .i64 ((acK .i64 (s.1.2.2.1*31))+y7.1)) 9973)]:List Int)).length*8<=2 ^ 40) (some (.inl ((s.1.1,(),(Int.tmod (acK .i64 ((acK .i64 (s.1.2.2.1*31))+y7.1)) 9973),(acK .i64 (s.1.2.2.2.1+1)),()),(()),(s.2.2.1++([(Int.tmod (acK .i64 ((acK .i64 (s.1.2.2.1*31))+y7.1)) 9973)]:List Int)),()))) none) none) (some (.inr (((),()),(()),s.2.2)))
def SN:=mu JH
def Te[dp] :=F6 Tryz.f317 [0] O7 JH [Vr,Wn] [] (by kernel_rfl) λs=>by simp only[JH,tm];kernel_rfl
def JP(a0:List pZ):Option ((List Int)×Unit):=
 (DU a0).bind λy1=>br (!y1.1) (some (([]:List Int),())) (iteP ((([]:List Int)++([11]:List Int)).length*8<=2 ^ 40) ((SN ((a0,(),11,0,()),(()),(([]:List Int)++([11]:List Int)),())).bind λe8=>some e8.2.2) none)
def UF[dp] :=Dh 317 Tryz.f317 QD IT (λx=>JP x.1) [LL] [Te] (by kernel_rfl) λx=>by simp only[JP,tm];kernel_rfl
def Ks(a0:List pZ)(a1:Int):Option (Int×Unit):=
 (JP a0).bind λy1=>(CY a1 0 (acK .i64 ((y1.1.length:Int)-1))).bind λy2=>br (!y2.1) (some ((-1),())) (iteP (0<=a1/\a1< (y1.1.length:Int)) ((y1.1[a1.toNat]?).bind λx3=>some (x3,())) none)
def Sw[dp] :=Dh 316 Tryz.f316 YW Iv (λx=>Ks x.1 x.2.1) [UF,DT] [] (by kernel_rfl) λx=>by simp only[Ks,tm];kernel_rfl
def Ji(a0:o4):Option (Int×Unit):=
 (Ks a0.learned (a0.learned.length:Int)).bind λy1=>some (y1.1,())
def RI[dp] :=Dh 315 Tryz.f315 Ul Iv (λx=>Ji x.1) [Sw] [] (by kernel_rfl) λx=>by simp only[Ji,tm];kernel_rfl
def JU(a0:List pZ)(a1:Int)(a2:Int):Option (Bool×Unit):=
 br (decide (a2≥0)) ((Ks a0 a1).bind λy1=>some ((y1.1==a2),())) (some (false,()))
def SA[dp] :=Dh 314 Tryz.f314 aaG [.b] (λx=>JU x.1 x.2.1 x.2.2.1) [Sw] [] (by kernel_rfl) λx=>by simp only[JU,tm];kernel_rfl
def IZ(a0:oZ)(a1:Int)(a2:Int):Option (Int×Unit):=
 (K6 a0 a1 a2).bind λy1=>br (!y1.1) (some ((-1),())) (iteP (0<=a1) ((a0.servers[a1.toNat]?).bind λx2=>(Dx x2).bind λy3=>iteP (0<=a2) ((a0.servers[a2.toNat]?).bind λx4=>iteP (0<=a2) ((a0.servers[a2.toNat]?).bind λx5=>(Ji x5).bind λy6=>(JU y3.1 (x4.learned.length:Int) y6.1).bind λy7=>br (!y7.1) (some ((acK .i64 ((y3.1.length:Int)-0)),())) (some ((acK .i64 ((y3.1.length:Int)-(x4.learned.length:Int))),()))) none) none) none)
def TG[dp] :=Dh 310 Tryz.f310 P1 Iv (λx=>IZ x.1 x.2.1 x.2.2.1) [VA,Jk,RI,SA] [] (by kernel_rfl) λx=>by simp only[IZ,tm];kernel_rfl
def I0(a0:oZ)(a1:Int)(a2:Int)(a3:Int):Option (oZ×Int×Unit):=
 (DF a0).bind λy1=>(IZ a0 a1 a2).bind λy2=>br (decide (y2.1<0)) (some (y1.1,0,())) ((CY a3 1 4).bind λy3=>br (!y3.1) (some (y1.1,0,())) (iteP (0<=a1) ((a0.servers[a1.toNat]?).bind λx4=>(Dx x4).bind λy5=>iteP (0<=(0:Int)/\(0:Int)<=(acK .i64 ((acK .i64 ((y5.1.length:Int)-y2.1))+(if a3<y2.1 then a3 else y2.1)))/\(acK .i64 ((acK .i64 ((y5.1.length:Int)-y2.1))+(if a3<y2.1 then a3 else y2.1)))<=((y5.1.length:Nat):Int)) (iteP ((0+(0:Int).toNat)+((acK .i64 ((acK .i64 ((y5.1.length:Int)-y2.1))+(if a3<y2.1 then a3 else y2.1))).toNat-(0:Int).toNat)<=y5.1.length) ((EF ((y5.1.drop (0+(0:Int).toNat)).take ((acK .i64 ((acK .i64 ((y5.1.length:Int)-y2.1))+(if a3<y2.1 then a3 else y2.1))).toNat-(0:Int).toNat))).bind λy6=>iteP (0<=a2/\a2< (y1.1.servers.length:Int)) ((y1.1.servers[a2.toNat]?).bind λx7=>some ((⟨y1.1.now,(y1.1.servers.set a2.toNat (⟨x7.up,x7.intact,x7.version,x7.epoch,x7.config,x7.first,x7.log,x7.commit,y6.1⟩:o4)),y1.1.sides,y1.1.master,y1.1.masterUp,y1.1.lease,y1.1.places⟩:oZ),(if a3<y2.1 then a3 else y2.1),())) none) none) none) none))
def TH[dp] :=Dh 296 Tryz.f296 aaV M4 (λx=>I0 x.1 x.2.1 x.2.2.1 x.2.2.2.1) [Ed,TG,DT,Jk,I5] [] (by kernel_rfl) λx=>by simp only[I0,tm];kernel_rfl
def HK(a0:oZ)(a1:Int):Option (oZ×Int×Unit):=
 (DF a0).bind λy1=>(GA a0 a1).bind λy2=>br (!y2.1) (some (y1.1,1,())) (iteP (0<=a1) ((a0.servers[a1.toNat]?).bind λx3=>br (x3.version==2) (some (y1.1,1,())) (iteP (0<=a1) ((a0.servers[a1.toNat]?).bind λx4=>br (!x4.up) (some (y1.1,2,())) (iteP (0<=a1/\a1< (y1.1.servers.length:Int)) ((y1.1.servers[a1.toNat]?).bind λx5=>some ((⟨y1.1.now,(y1.1.servers.set a1.toNat (⟨x5.up,x5.intact,2,x5.epoch,x5.config,x5.first,x5.log,x5.commit,x5.learned⟩:o4)),y1.1.sides,y1.1.master,y1.1.masterUp,y1.1.lease,y1.1.places⟩:oZ),0,())) none)) none)) none)
def RL[dp] :=Dh 297 Tryz.f297 Ki M4 (λx=>HK x.1 x.2.1) [Ed,Nu] [] (by kernel_rfl) λx=>by simp only[HK,tm];kernel_rfl
def Hh(a0:List pZ):Option (Bool×Unit):=
 (Dy a0).bind λy1=>some (y1.1,())
def OJ[dp] :=Dh 311 Tryz.f311 QD [.b] (λx=>Hh x.1) [Mi] [] (by kernel_rfl) λx=>by simp only[Hh,tm];kernel_rfl
abbrev Iw:LX:=⟨⟨[Ka,LQ,Rn,Y1,YY,NC],[Jd,Li,VS,Zg],X1,0,80⟩,[(.ret,⟨[Ka,PF,Mu,OY],[VS,VS],X1,0,80⟩),(.ext 0,⟨[Ka,PF,(5,.cl (.dead)),OY],[Li,VS],X1,0,80⟩)],[],[1,2,4,6,7,8],[1,4,5,6]⟩
def GC(s: (Int×Unit×Unit×Unit×Unit×Int×Unit)×(MI×LR×LR×Y8×Unit)×List o4×List Int×List mD×List tc×Unit):Iw.R:=
 br (decide (s.1.2.2.2.2.2.1< (s.2.1.1.2.1.length:Int))) ((HW (⟨s.2.1.2.2.2.1.2.2.2.2.1,s.2.1.2.2.2.1.2.2.2.2.2.1,s.2.1.2.2.2.1.2.2.2.2.2.2.1,s.2.1.2.2.2.1.2.2.2.2.2.2.2.1⟩:mD)).bind λy47=>br (!y47.1) (iteP (0<=s.1.2.2.2.2.2.1) ((s.2.1.1.2.1[s.1.2.2.2.2.2.1.toNat]?).bind λx48=>(Fa x48.config (⟨s.2.1.2.2.2.1.2.2.2.2.1,s.2.1.2.2.2.1.2.2.2.2.2.1,s.2.1.2.2.2.1.2.2.2.2.2.2.1,s.2.1.2.2.2.1.2.2.2.2.2.2.2.1⟩:mD)).bind λy49=>let j52:Iw.R:=some (.inl ((s.1.1,(),(),(),(),(acK .i64 (s.1.2.2.2.2.2.1+1)),()),s.2));br y49.1 (iteP (0<=s.1.2.2.2.2.2.1) ((s.2.1.1.2.1[s.1.2.2.2.2.2.1.toNat]?).bind λx50=>(Hh x50.log).bind λy51=>br y51.1 (some (.inr (.inl ((s.1.1,(),6,(),()),(s.2.1.2.2.1,s.2.1.2.2.1,()),s.2.2)))) (j52)) none) (j52)) none) (some (.inr (.inr ((s.1.1,(),(),(),()),(s.2.1.2.1,s.2.1.2.2.1,()),s.2.2))))) (some (.inr (.inr ((s.1.1,(),(),(),()),(s.2.1.2.1,s.2.1.2.2.1,()),s.2.2))))
def OU:=mu GC
def Pd[dp] :=F6 Tryz.f298 [0] Iw GC [OJ,Pn,J0] [] (by kernel_rfl) λs=>by simp only[GC,tm];kernel_rfl
def GK(a0:oZ)(a1:Int):Option (oZ×Int×Unit):=
 (DF a0).bind λy1=>(GA a0 a1).bind λy2=>br (!y2.1) (some (y1.1,1,())) (iteP (0<=a1) ((a0.servers[a1.toNat]?).bind λx3=>br (x3.version==1) (some (y1.1,1,())) (iteP (0<=a1) ((a0.servers[a1.toNat]?).bind λx4=>br (!x4.up) (some (y1.1,2,())) (iteP (0<=a1) ((a0.servers[a1.toNat]?).bind λx5=>(Hh x5.learned).bind λy6=>br y6.1 (some (y1.1,6,())) ((OU ((a1,(),(),(),(),0,()),((a0.now,a0.servers,a0.sides,a0.master.configs,a0.master.activated,a0.masterUp,a0.lease.epoch,a0.lease.holder,a0.lease.ends,a0.places,()),(0,(),(),(),0,0,0,0,0,(),()),(y1.1.now,(),(),(),y1.1.master.activated,y1.1.masterUp,y1.1.lease.epoch,y1.1.lease.holder,y1.1.lease.ends,(),()),(x5.up,x5.intact,x5.version,x5.epoch,x5.config.epoch,x5.config.primary,x5.config.replicas,x5.config.witnesses,x5.first,x5.log,x5.commit,x5.learned,()),()),y1.1.servers,y1.1.sides,y1.1.master.configs,y1.1.places,())).bind λe53=>Sum.elim (λe53_0=>some ((⟨e53_0.2.1.1.1,e53_0.2.2.1,e53_0.2.2.2.1,(⟨e53_0.2.2.2.2.1,e53_0.2.1.1.2.2.2.2.1⟩:jw),e53_0.2.1.1.2.2.2.2.2.1,(⟨e53_0.2.1.1.2.2.2.2.2.2.1,e53_0.2.1.1.2.2.2.2.2.2.2.1,e53_0.2.1.1.2.2.2.2.2.2.2.2.1⟩:s7),e53_0.2.2.2.2.2.1⟩:oZ),e53_0.1.2.2.1,())) (λe53_1=>iteP (0<=e53_1.1.1/\e53_1.1.1< (e53_1.2.2.1.length:Int)) ((e53_1.2.2.1[e53_1.1.1.toNat]?).bind λx54=>some ((⟨e53_1.2.1.2.1.1,(e53_1.2.2.1.set e53_1.1.1.toNat (⟨x54.up,x54.intact,1,x54.epoch,x54.config,x54.first,x54.log,x54.commit,x54.learned⟩:o4)),e53_1.2.2.2.1,(⟨e53_1.2.2.2.2.1,e53_1.2.1.2.1.2.2.2.2.1⟩:jw),e53_1.2.1.2.1.2.2.2.2.2.1,(⟨e53_1.2.1.2.1.2.2.2.2.2.2.1,e53_1.2.1.2.1.2.2.2.2.2.2.2.1,e53_1.2.1.2.1.2.2.2.2.2.2.2.2.1⟩:s7),e53_1.2.2.2.2.2.1⟩:oZ),0,())) none) e53)) none)) none)) none)
def Qv[dp] :=Dh 298 Tryz.f298 Ki M4 (λx=>GK x.1 x.2.1) [Ed,Nu,OJ] [Pd] (by kernel_rfl) λx=>by simp only[GK,tm];kernel_rfl
abbrev MB:LX:=⟨⟨[J9,Rm,N5,Mt],[Jd,X0],Zl,0,64⟩,[(.ret,⟨[PE,Rp],[Zh],aaf,0,64⟩),(.ext 0,⟨[Ms,Rp],[Zh],aaf,0,64⟩)],[],[1,3,5,6],[2,3]⟩
def Eo(s:Z8×(MI×QZ×Unit)×List Int×List Int×List Int×Unit):MB.R:=
 br (decide (s.1.2.2.2.1< (s.2.2.1.length:Int))) (iteP (0<=s.1.2.2.2.1/\s.1.2.2.2.1< (s.2.2.1.length:Int)) ((s.2.2.1[s.1.2.2.2.1.toNat]?).bind λx23=>(FW (⟨s.2.1.1.1,s.2.1.1.2.1,s.2.1.1.2.2.1,(⟨s.2.1.1.2.2.2.1,s.2.1.1.2.2.2.2.1⟩:jw),s.2.1.1.2.2.2.2.2.1,(⟨s.2.1.1.2.2.2.2.2.2.1,s.2.1.1.2.2.2.2.2.2.2.1,s.2.1.1.2.2.2.2.2.2.2.2.1⟩:s7),s.2.1.1.2.2.2.2.2.2.2.2.2.1⟩:oZ) s.2.1.2.1.2.1 x23).bind λy24=>br (!y24.1) (some (.inr (.inl (((-1),(),()),s.2.1.2,s.2.2.2)))) (some (.inl (((),(),(),(acK .i64 (s.1.2.2.2.1+1)),()),s.2)))) none) (some (.inr (.inr (((),(),()),s.2.1.2,s.2.2.2))))
def Ju:=mu Eo
def P9[dp] :=F6 Tryz.f15 [0] MB Eo [SE] [] (by kernel_rfl) λs=>by simp only[Eo,tm];kernel_rfl
def DE(a0:oZ):Option (Int×Unit):=
 (C1 a0.master).bind λy1=>(CP a0).bind λy2=>br (!y2.1) (some ((-1),())) (br (!y1.2.1) (some ((-1),())) (iteP (0<=y1.1.primary) ((a0.servers[y1.1.primary.toNat]?).bind λx3=>(DG x3 y1.1.primary).bind λy4=>br (!y4.1) (some ((-1),())) (iteP (0<=y1.1.primary) ((a0.servers[y1.1.primary.toNat]?).bind λx5=>br (!(x5.config.epoch==y1.1.epoch)) (some ((-1),())) ((DN y1.1).bind λy6=>(Ju (((),(),(),0,()),((a0.now,a0.servers,a0.sides,a0.master.configs,a0.master.activated,a0.masterUp,a0.lease.epoch,a0.lease.holder,a0.lease.ends,a0.places,()),(y1.1.epoch,y1.1.primary,(),(),()),()),y6.1,y1.1.replicas,y1.1.witnesses,())).bind λe25=>Sum.elim (λe25_0=>some (e25_0.1.1,())) (λe25_1=>some (e25_1.2.1.1.2.1,())) e25)) none)) none))
def Nt[dp] :=Dh 15 Tryz.f15 QY Iv (λx=>DE x.1) [FX,C2,Io,Ip] [P9] (by kernel_rfl) λx=>by simp only[DE,tm];kernel_rfl
def E3(a0:oZ):Option (Bool×Unit):=
 (DE a0).bind λy1=>some ((decide (y1.1≥0)),())
def OK[dp] :=Dh 13 Tryz.f13 QY [.b] (λx=>E3 x.1) [Nt] [] (by kernel_rfl) λx=>by simp only[E3,tm];kernel_rfl
def K1(a0:oZ)(a1:Int):Option (Int×Unit):=
 (C1 a0.master).bind λy1=>(CP a0).bind λy2=>br (!y2.1) (some (1,())) (br (!y1.2.1) (some (1,())) ((DD y1.1.replicas a1).bind λy3=>br (!y3.1) (some (1,())) (br (a1==y1.1.primary) (some (1,())) (br (!((a0.master.configs.length:Int)==y1.1.epoch)) (some (1,())) (br (y1.1.epoch==20) (some (1,())) (br (decide ((acK .i64 (a0.masterUp*2))<=3)) (some (8,())) ((E3 a0).bind λy4=>br (!y4.1) (some (10,())) (iteP (0<=y1.1.primary) ((a0.sides[y1.1.primary.toNat]?).bind λx5=>br (!(x5==0)) (some (10,())) (br (decide (a0.lease.ends>0)) (br (!(a0.lease.holder==y1.1.primary)) (some (7,())) (some (0,()))) (some (0,())))) none))))))))
def Vt[dp] :=Dh 25 Tryz.f25 Ki Iv (λx=>K1 x.1 x.2.1) [FX,C2,F5,OK] [] (by kernel_rfl) λx=>by simp only[K1,tm];kernel_rfl
def HJ(a0:oZ)(a1:Int):Option (oZ×Int×Unit):=
 (DF a0).bind λy1=>(K1 a0 a1).bind λy2=>br (!(y2.1==0)) (some (y1.1,y2.1,())) ((C1 a0.master).bind λy3=>(Gx a0 y3.1.primary).bind λy4=>(FC (⟨y4.1.now,y4.1.servers,y4.1.sides,y4.1.master,y4.1.masterUp,(⟨0,0,0⟩:s7),y4.1.places⟩:oZ) (⟨(acK .i64 (y3.1.epoch+1)),a1,y3.1.replicas,y3.1.witnesses⟩:mD)).bind λy5=>(FT y5.1).bind λy6=>some (y6.1,y6.2.1,()))
def RK[dp] :=Dh 23 Tryz.f23 Ki M4 (λx=>HJ x.1 x.2.1) [Ed,Vt,FX,Oc,MX,PW] [] (by kernel_rfl) λx=>by simp only[HJ,tm];kernel_rfl
def E5(a0:oZ)(a1:Int)(a2:Int):Option (oZ×Int×Unit):=
 (DF a0).bind λy1=>(CP a0).bind λy2=>br (!y2.1) (some (y1.1,1,())) ((CY a2 1 50).bind λy3=>br (!y3.1) (some (y1.1,1,())) ((E3 a0).bind λy4=>br y4.1 (some (y1.1,0,())) ((Fb a0 a1 0).bind λy5=>br (!y5.2.1) (some (y1.1,10,())) ((FC a0 y5.1).bind λy6=>br (!(y6.2.1==0)) (some (y1.1,y6.2.1,())) ((Kw a0.lease).bind λy7=>(Ih y6.1 (if (acK .i64 (y7.1-a0.now))>0 then (acK .i64 (y7.1-a0.now)) else 0)).bind λy8=>br (!(y8.2.1==0)) (some (y1.1,y8.2.1,())) ((FT y8.1).bind λy9=>br (!(y9.2.1==0)) (some (y9.1,y9.2.1,())) ((FD y9.1 y5.1.primary a2).bind λy10=>some (y10.1,y10.2.1,()))))))))
def Py[dp] :=Dh 10 Tryz.f10 P1 M4 (λx=>E5 x.1 x.2.1 x.2.2.1) [Ed,C2,DT,OK,N1,MX,SC,Sz,PW,Qx] [] (by kernel_rfl) λx=>by simp only[E5,tm];kernel_rfl
def Nj(a0:oZ)(a1:ve):Option (oZ×Int×Unit):=
 let j28 (p17:Int) (p18:List o4) (p19:List Int) (p20:List mD) (p21:Int) (p22:Int) (p23:Int) (p24:Int) (p25:Int) (p26:List tc) (p27:Int):Option (oZ×Int×Unit):=some ((⟨p17,p18,p19,(⟨p20,p21⟩:jw),p22,(⟨p23,p24,p25⟩:s7),p26⟩:oZ),p27,());br (a1.kind==3) ((FD a0 a1.server a1.n).bind λy1=>j28 y1.1.now y1.1.servers y1.1.sides y1.1.master.configs y1.1.master.activated y1.1.masterUp y1.1.lease.epoch y1.1.lease.holder y1.1.lease.ends y1.1.places y1.2.1) (br (a1.kind==4) ((Fb a0 a1.n a1.other).bind λy2=>br (!y2.2.1) ((DF a0).bind λy3=>some (y3.1,10,())) ((FC a0 y2.1).bind λy4=>j28 y4.1.now y4.1.servers y4.1.sides y4.1.master.configs y4.1.master.activated y4.1.masterUp y4.1.lease.epoch y4.1.lease.holder y4.1.lease.ends y4.1.places y4.2.1)) (br (a1.kind==5) ((FT a0).bind λy5=>j28 y5.1.now y5.1.servers y5.1.sides y5.1.master.configs y5.1.master.activated y5.1.masterUp y5.1.lease.epoch y5.1.lease.holder y5.1.lease.ends y5.1.places y5.2.1) (br (a1.kind==6) ((I1 a0 a1.server).bind λy6=>j28 y6.1.now y6.1.servers y6.1.sides y6.1.master.configs y6.1.master.activated y6.1.masterUp y6.1.lease.epoch y6.1.lease.holder y6.1.lease.ends y6.1.places y6.2.1) (br (a1.kind==7) ((HI a0 a1.server).bind λy7=>j28 y7.1.now y7.1.servers y7.1.sides y7.1.master.configs y7.1.master.activated y7.1.masterUp y7.1.lease.epoch y7.1.lease.holder y7.1.lease.ends y7.1.places y7.2.1) (br (a1.kind==8) ((Mb a0 a1.server).bind λy8=>j28 y8.1.now y8.1.servers y8.1.sides y8.1.master.configs y8.1.master.activated y8.1.masterUp y8.1.lease.epoch y8.1.lease.holder y8.1.lease.ends y8.1.places y8.2.1) (br (a1.kind==9) ((JS a0 a1.server a1.n).bind λy9=>j28 y9.1.now y9.1.servers y9.1.sides y9.1.master.configs y9.1.master.activated y9.1.masterUp y9.1.lease.epoch y9.1.lease.holder y9.1.lease.ends y9.1.places y9.2.1) (br (a1.kind==10) ((JW a0 a1.n).bind λy10=>j28 y10.1.now y10.1.servers y10.1.sides y10.1.master.configs y10.1.master.activated y10.1.masterUp y10.1.lease.epoch y10.1.lease.holder y10.1.lease.ends y10.1.places y10.2.1) (br (a1.kind==11) ((Ih a0 a1.n).bind λy11=>j28 y11.1.now y11.1.servers y11.1.sides y11.1.master.configs y11.1.master.activated y11.1.masterUp y11.1.lease.epoch y11.1.lease.holder y11.1.lease.ends y11.1.places y11.2.1) (br (a1.kind==12) ((I0 a0 a1.server a1.other a1.n).bind λy12=>br (y12.2.1==0) (j28 y12.1.now y12.1.servers y12.1.sides y12.1.master.configs y12.1.master.activated y12.1.masterUp y12.1.lease.epoch y12.1.lease.holder y12.1.lease.ends y12.1.places 11) (j28 y12.1.now y12.1.servers y12.1.sides y12.1.master.configs y12.1.master.activated y12.1.masterUp y12.1.lease.epoch y12.1.lease.holder y12.1.lease.ends y12.1.places 0)) (br (a1.kind==13) ((HK a0 a1.server).bind λy13=>j28 y13.1.now y13.1.servers y13.1.sides y13.1.master.configs y13.1.master.activated y13.1.masterUp y13.1.lease.epoch y13.1.lease.holder y13.1.lease.ends y13.1.places y13.2.1) (br (a1.kind==14) ((GK a0 a1.server).bind λy14=>j28 y14.1.now y14.1.servers y14.1.sides y14.1.master.configs y14.1.master.activated y14.1.masterUp y14.1.lease.epoch y14.1.lease.holder y14.1.lease.ends y14.1.places y14.2.1) (br (a1.kind==15) ((HJ a0 a1.server).bind λy15=>j28 y15.1.now y15.1.servers y15.1.sides y15.1.master.configs y15.1.master.activated y15.1.masterUp y15.1.lease.epoch y15.1.lease.holder y15.1.lease.ends y15.1.places y15.2.1) ((E5 a0 a1.other a1.n).bind λy16=>j28 y16.1.now y16.1.servers y16.1.sides y16.1.master.configs y16.1.master.activated y16.1.masterUp y16.1.lease.epoch y16.1.lease.holder y16.1.lease.ends y16.1.places y16.2.1)))))))))))))
def XT[dp] :=Dh 273 Tryz.f273 aaW M4 (λx=>Nj x.1 x.2.1) [Qx,N1,Ed,MX,PW,TJ,RJ,Wr,UK,UO,Sz,TH,RL,Qv,RK,Py] [] (by kernel_rfl) λx=>by simp only[Nj,tm];kernel_rfl
def Md(a0:oZ)(a1:ve):Option (oZ×vi×Unit):=
 (CP a0).bind λy1=>br (!y1.1) ((DF a0).bind λy2=>some (y2.1,(⟨1,(⟨false,0⟩:Result),0⟩:vi),())) ((Ig a1).bind λy3=>br (!y3.1) ((DF a0).bind λy4=>some (y4.1,(⟨1,(⟨false,0⟩:Result),0⟩:vi),())) (br (a1.kind==1) ((L9 a0 a1.server a1.op).bind λy5=>some (y5.1,y5.2.1,())) (br (a1.kind==2) ((DF a0).bind λy6=>(K0 a0 a1.server a1.n).bind λy7=>some (y6.1,y7.1,())) ((Nj a0 a1).bind λy8=>some (y8.1,(⟨y8.2.1,(⟨false,0⟩:Result),0⟩:vi),())))))
def Wu[dp] :=Dh 256 Tryz.f256 aaW abl (λx=>Md x.1 x.2.1) [C2,Ed,Sy,Wo,Vs,XT] [] (by kernel_rfl) λx=>by simp only[Md,tm];kernel_rfl
abbrev PN:LX:=⟨⟨[(1,.cl (.ro (.st .event))),PF,OY,aa8,NC],[Li,WJ],abu,0,40⟩,[(.ext 0,⟨[PF,OY,aa8],[Li,WJ],abu,0,40⟩)],[],[1,4,6,7,8],[4,6,7]⟩
def KN(s: (List ve×Unit×Unit×Unit×Int×Unit)×(LR×LR×Unit)×List vi×List o4×List Int×List mD×List tc×Unit):PN.R:=
 br (decide (s.1.2.2.2.2.1< (s.1.1.length:Int))) (br (decide (s.1.2.2.2.2.1<60)) (iteP (0<=s.1.2.2.2.2.1) ((s.1.1[s.1.2.2.2.2.1.toNat]?).bind λx21=>(Md (⟨s.2.1.2.1.1,s.2.2.2.1,s.2.2.2.2.1,(⟨s.2.2.2.2.2.1,s.2.1.2.1.2.2.2.2.1⟩:jw),s.2.1.2.1.2.2.2.2.2.1,(⟨s.2.1.2.1.2.2.2.2.2.2.1,s.2.1.2.1.2.2.2.2.2.2.2.1,s.2.1.2.1.2.2.2.2.2.2.2.2.1⟩:s7),s.2.2.2.2.2.2.1⟩:oZ) x21).bind λy22=>iteP ((s.2.2.1++([y22.2.1]:List vi)).length*32<=2 ^ 40) (some (.inl ((s.1.1,(),(),(),(acK .i64 (s.1.2.2.2.2.1+1)),()),(s.2.1.1,(y22.1.now,(),(),(),y22.1.master.activated,y22.1.masterUp,y22.1.lease.epoch,y22.1.lease.holder,y22.1.lease.ends,(),()),()),(s.2.2.1++([y22.2.1]:List vi)),y22.1.servers,y22.1.sides,y22.1.master.configs,y22.1.places,()))) none) none) (some (.inr (((),(),(),()),s.2)))) (some (.inr (((),(),(),()),s.2)))
def TR:=mu KN
def Ua[dp] :=F6 Tryz.f226 [0] PN KN [Wu] [] (by kernel_rfl) λs=>by simp only[KN,tm];kernel_rfl
def K2(a0:oZ)(a1:List ve):Option (oZ×(List vi)×Unit):=
 (DF a0).bind λy1=>(TR ((a1,(),(),(),0,()),((0,(),(),(),0,0,0,0,0,(),()),(y1.1.now,(),(),(),y1.1.master.activated,y1.1.masterUp,y1.1.lease.epoch,y1.1.lease.holder,y1.1.lease.ends,(),()),()),([]:List vi),y1.1.servers,y1.1.sides,y1.1.master.configs,y1.1.places,())).bind λe23=>some ((⟨e23.2.1.2.1.1,e23.2.2.2.1,e23.2.2.2.2.1,(⟨e23.2.2.2.2.2.1,e23.2.1.2.1.2.2.2.2.1⟩:jw),e23.2.1.2.1.2.2.2.2.2.1,(⟨e23.2.1.2.1.2.2.2.2.2.2.1,e23.2.1.2.1.2.2.2.2.2.2.2.1,e23.2.1.2.1.2.2.2.2.2.2.2.2.1⟩:s7),e23.2.2.2.2.2.2.1⟩:oZ),e23.2.2.1,())
def Vu[dp] :=Dh 226 Tryz.f226 [.ty (.st .cluster),.ty (.ls (.st .event))] [.st .cluster,.ls (.st .reply)] (λx=>K2 x.1 x.2.1) [Ed] [Ua] (by kernel_rfl) λx=>by simp only[K2,tm];kernel_rfl
def JX[dp](a0:List o0):Option ((List o0)×oZ×Unit):=
 (Kz a0).bind λy1=>iteP (y1.1.length=a0.length) ((JT y1.2.1).bind λy2=>(K8 y1.1 14).bind λy3=>iteP (y3.1.length=y1.1.length) ((K2 y2.1 y3.2.1).bind λy4=>some (y3.1,y4.1,())) none) none
def US[dp] :=R4 146 Tryz.f146 (.st .cur) [] RR (λl _=>JX l) [SF,UL,VD,Vu] [] (by kernel_rfl) λl x=>by simp only[JX,tm,-eq_self];kernel_rfl
abbrev QH:LX:=⟨⟨[SP,Xg,LP],[],Xq,1,17⟩,[(.ext 0,⟨[Xg],[],Xq,1,17⟩)],[],[0,3,4],[3]⟩
def JJ[dp](s:XX×Unit×List o0×List Int×Unit):QH.R:=
 br (decide (s.1.2.2.1<5)) ((C4 s.2.2.1 ([0,0,0,1,2]:List Int)).bind λy4=>iteP (y4.1.length=s.2.2.1.length) (iteP ((s.2.2.2.1++([y4.2.1]:List Int)).length*8<=2 ^ 40) (some (.inl (((),(),(acK .i64 (s.1.2.2.1+1)),()),(()),y4.1,(s.2.2.2.1++([y4.2.1]:List Int)),()))) none) none) (some (.inr (((),()),(()),s.2.2)))
def QC[dp] :=mu JJ
def U4[dp] :=F6 Tryz.f230 [0] QH JJ [Eg] [] (by kernel_rfl) λs=>by simp only[JJ,tm,-eq_self];kernel_rfl
def Me[dp](a0:List o0):Option ((List o0)×(List Int)×Unit):=
 (QC (((),(),0,()),(()),a0,([]:List Int),())).bind λe5=>some e5.2.2
def Wv[dp] :=R4 230 Tryz.f230 (.st .cur) [] IT (λl _=>Me l) [] [U4] (by kernel_rfl) λl x=>by simp only[Me,tm];kernel_rfl
def OA[dp](a0:List o0):Option ((List o0)×(List Int)×Unit):=
 (Me a0).bind λy1=>iteP (y1.1.length=a0.length) ((CT y1.1 12).bind λy2=>iteP (y2.1.length=y1.1.length) (br (y2.2.1==0) (iteP (0<=(1:Int)/\(1:Int)<=(y1.2.1.length:Int)/\(y1.2.1.length:Int)<=((y1.2.1.length:Nat):Int)) (iteP ((0+(1:Int).toNat)=0/\((y1.2.1.length:Int).toNat-(1:Int).toNat)<=y1.2.1.length) (some (y2.1,(y1.2.1.take ((y1.2.1.length:Int).toNat-(1:Int).toNat)),())) (iteP ((0+(1:Int).toNat)+((y1.2.1.length:Int).toNat-(1:Int).toNat)<=y1.2.1.length) (some (y2.1,((y1.2.1.drop (0+(1:Int).toNat)).take ((y1.2.1.length:Int).toNat-(1:Int).toNat)),())) none)) none) (br (y2.2.1==1) ((C4 y2.1 ([(-1),3,4]:List Int)).bind λy3=>iteP (y3.1.length=y2.1.length) (iteP (0<=(1:Int)/\(1:Int)< (y1.2.1.length:Int)) ((y1.2.1[(1:Int).toNat]?).bind λ_=>some (y3.1,(y1.2.1.set ((1:Int).toNat) y3.2.1),())) none) none) (some (y2.1,y1.2.1,())))) none) none
def YN[dp] :=R4 147 Tryz.f147 (.st .cur) [] IT (λl _=>OA l) [Wv,Ee,Eg] [] (by kernel_rfl) λl x=>by simp only[OA,tm,-eq_self];kernel_rfl
abbrev SZ:LX:=⟨⟨[SP,Xg,LP],[],Xq,1,17⟩,[(.ext 0,⟨[Xg],[],Xq,1,17⟩)],[],[0,3,4],[3]⟩
def NT[dp](s:XX×Unit×List o0×List Int×Unit):SZ.R:=
 br (decide (s.1.2.2.1<5)) ((EP s.2.2.1 2).bind λy4=>iteP (y4.1.length=s.2.2.1.length) (br y4.2.1 (iteP ((s.2.2.2.1++([s.1.2.2.1]:List Int)).length*8<=2 ^ 40) (some (.inl (((),(),(acK .i64 (s.1.2.2.1+1)),()),(()),y4.1,(s.2.2.2.1++([s.1.2.2.1]:List Int)),()))) none) (some (.inl (((),(),(acK .i64 (s.1.2.2.1+1)),()),(()),y4.1,s.2.2.2)))) none) (some (.inr (((),()),(()),s.2.2)))
def WE[dp] :=mu NT
def WR[dp] :=F6 Tryz.f200 [0] SZ NT [Iq] [] (by kernel_rfl) λs=>by simp only[NT,tm,-eq_self];kernel_rfl
def K7[dp](a0:List o0):Option ((List o0)×(List Int)×Unit):=
 (WE (((),(),0,()),(()),a0,([]:List Int),())).bind λe6=>some e6.2.2
def VB[dp] :=R4 200 Tryz.f200 (.st .cur) [] IT (λl _=>K7 l) [] [WR] (by kernel_rfl) λl x=>by simp only[K7,tm];kernel_rfl
def Js[dp](a0:List o0)(a1:Int):Option ((List o0)×mD×Unit):=
 (CT a0 5).bind λy1=>iteP (y1.1.length=a0.length) ((K7 y1.1).bind λy2=>iteP (y2.1.length=y1.1.length) ((G2 y2.2.1 y1.2.1).bind λy3=>let j9 (p4:List Int):Option ((List o0)×mD×Unit):=(EP y2.1 2).bind λy5=>iteP (y5.1.length=y2.1.length) (br y5.2.1 ((K7 y5.1).bind λy6=>iteP (y6.1.length=y5.1.length) ((Ec y6.2.1 p4).bind λy7=>br (decide ((y7.1.length:Int)>0)) (iteP (0<=(0:Int)/\(0:Int)<=(1:Int)/\(1:Int)<=((y7.1.length:Nat):Int)) (iteP ((0+(0:Int).toNat)=0/\((1:Int).toNat-(0:Int).toNat)<=y7.1.length) (some (y6.1,(⟨a1,y1.2.1,p4,(y7.1.take ((1:Int).toNat-(0:Int).toNat))⟩:mD),())) (iteP ((0+(0:Int).toNat)+((1:Int).toNat-(0:Int).toNat)<=y7.1.length) (some (y6.1,(⟨a1,y1.2.1,p4,((y7.1.drop (0+(0:Int).toNat)).take ((1:Int).toNat-(0:Int).toNat))⟩:mD),())) none)) none) (some (y6.1,(⟨a1,y1.2.1,p4,([]:List Int)⟩:mD),()))) none) (some (y5.1,(⟨a1,y1.2.1,p4,([]:List Int)⟩:mD),()))) none;br (decide ((y3.1.length:Int)>3)) (j9 ([y1.2.1]:List Int)) (j9 y3.1)) none) none
def PY[dp] :=R4 105 Tryz.f105 (.st .cur) UY aaa (λl x=>Js l x.1) [Ee,VB,N2,Iq,KC] [] (by kernel_rfl) λl x=>by simp only[Js,tm,-eq_self];kernel_rfl
abbrev SX:LX:=⟨⟨[SP,LQ,Rm,LP],[XZ,abq],[.st .cur,.st .config],1,34⟩,[(.ext 0,⟨[LQ,Rm],[XZ,abq],[.st .cur,.st .config],1,34⟩)],[.b 1 0 (.st .config)],[0,2,3,4],[2,3]⟩
def NR[dp](s:Z8×(RQ×RQ×Unit)×List o0×List mD×Unit):SX.R:=
 br (decide (s.1.2.2.2.1>0)) ((Js s.2.2.1 (acK .i64 ((s.2.2.2.1.length:Int)+1))).bind λy17=>iteP (y17.1.length=s.2.2.1.length) ((Fj (⟨s.2.2.2.1,s.2.1.2.1.2.1⟩:jw) y17.2.1).bind λy18=>(EP y17.1 2).bind λy19=>iteP (y19.1.length=y17.1.length) (br y19.2.1 ((DV y18.1 (y18.1.configs.length:Int)).bind λy20=>some (.inl (((),(),(),(acK .i64 (s.1.2.2.2.1-1)),()),(s.2.1.1,((),y20.1.activated,()),()),y19.1,y20.1.configs,()))) (some (.inl (((),(),(),(acK .i64 (s.1.2.2.2.1-1)),()),(s.2.1.1,((),y18.1.activated,()),()),y19.1,y18.1.configs,())))) none) none) (some (.inr (((),(),()),s.2)))
def WC[dp] :=mu NR
def WP[dp] :=F6 Tryz.f231 [0] SX NR [PY,Of,Iq,Np] [] (by kernel_rfl) λs=>by simp only[NR,tm,-eq_self];kernel_rfl
def Ow[dp](a0:List o0):Option ((List o0)×jw×Unit):=
 (CT a0 5).bind λy1=>iteP (y1.1.length=a0.length) ((WC (((),(),(),y1.2.1,()),(((),0,()),((),0,()),()),y1.1,([]:List mD),())).bind λe23=>some (e23.2.2.1,(⟨e23.2.2.2.1,e23.2.1.2.1.2.1⟩:jw),())) none
def YJ[dp] :=R4 231 Tryz.f231 (.st .cur) [] aab (λl _=>Ow l) [Ee] [WP] (by kernel_rfl) λl x=>by simp only[Ow,tm,-eq_self];kernel_rfl
def Pi[dp](a0:List o0):Option ((List o0)×(List Int)×Unit):=
 (K7 a0).bind λy1=>iteP (y1.1.length=a0.length) ((EP y1.1 8).bind λy2=>iteP (y2.1.length=y1.1.length) (br y2.2.1 ((C4 y2.1 ([(-1),0,4,5]:List Int)).bind λy3=>iteP (y3.1.length=y2.1.length) (iteP ((y1.2.1++([y3.2.1]:List Int)).length*8<=2 ^ 40) (some (y3.1,(y1.2.1++([y3.2.1]:List Int)),())) none) none) (some (y2.1,y1.2.1,()))) none) none
def Z2[dp] :=R4 251 Tryz.f251 (.st .cur) [] IT (λl _=>Pi l) [VB,Iq,Eg] [] (by kernel_rfl) λl x=>by simp only[Pi,tm,-eq_self];kernel_rfl
def Pk[dp](a0:List o0):Option ((List o0)×mD×Unit):=
 (CT a0 4).bind λy1=>iteP (y1.1.length=a0.length) ((Js y1.1 (acK .i64 (1+y1.2.1))).bind λy2=>iteP (y2.1.length=y1.1.length) ((CT y2.1 14).bind λy3=>iteP (y3.1.length=y2.1.length) (br (y3.2.1==0) ((C4 y3.1 ([0,20,21]:List Int)).bind λy4=>iteP (y4.1.length=y3.1.length) (some (y4.1,(⟨y4.2.1,y2.2.1.primary,y2.2.1.replicas,y2.2.1.witnesses⟩:mD),())) none) (br (y3.2.1==1) ((CT y3.1 7).bind λy5=>iteP (y5.1.length=y3.1.length) (some (y5.1,(⟨y2.2.1.epoch,(acK .i64 (y5.2.1-1)),y2.2.1.replicas,y2.2.1.witnesses⟩:mD),())) none) (br (y3.2.1==2) ((Pi y3.1).bind λy6=>iteP (y6.1.length=y3.1.length) (some (y6.1,(⟨y2.2.1.epoch,y2.2.1.primary,y6.2.1,y2.2.1.witnesses⟩:mD),())) none) (br (y3.2.1==3) ((Pi y3.1).bind λy7=>iteP (y7.1.length=y3.1.length) (some (y7.1,(⟨y2.2.1.epoch,y2.2.1.primary,y2.2.1.replicas,y7.2.1⟩:mD),())) none) (some (y3.1,y2.2.1,())))))) none) none) none
def Xb[dp] :=R4 214 Tryz.f214 (.st .cur) [] aaa (λl _=>Pk l) [Ee,PY,Eg,Z2] [] (by kernel_rfl) λl x=>by simp only[Pk,tm,-eq_self];kernel_rfl
def Ov[dp](a0:List o0):Option ((List o0)×jw×Unit):=
 (Ow a0).bind λy1=>iteP (y1.1.length=a0.length) ((CT y1.1 14).bind λy2=>iteP (y2.1.length=y1.1.length) (br (y2.2.1==0) ((C4 y2.1 ([(-1),0,3,6]:List Int)).bind λy3=>iteP (y3.1.length=y2.1.length) (some (y3.1,(⟨y1.2.1.configs,y3.2.1⟩:jw),())) none) (br (y2.2.1==1) ((Pk y2.1).bind λy4=>iteP (y4.1.length=y2.1.length) (iteP ((y1.2.1.configs++([y4.2.1]:List mD)).length*64<=2 ^ 40) (some (y4.1,(⟨(y1.2.1.configs++([y4.2.1]:List mD)),y1.2.1.activated⟩:jw),())) none) none) (some (y2.1,y1.2.1,())))) none) none
def YI[dp] :=R4 148 Tryz.f148 (.st .cur) [] aab (λl _=>Ov l) [YJ,Ee,Eg,Xb] [] (by kernel_rfl) λl x=>by simp only[Ov,tm,-eq_self];kernel_rfl
def Ox[dp](a0:List o0):Option ((List o0)×s7×Unit):=
 (EP a0 4).bind λy1=>iteP (y1.1.length=a0.length) (let j17 (p5:List o0) (p6:Int) (p7:Int) (p8:Int):Option ((List o0)×s7×Unit):=(CT p5 14).bind λy9=>iteP (y9.1.length=p5.length) (br (y9.2.1==0) ((C4 y9.1 ([0,20,21]:List Int)).bind λy10=>iteP (y10.1.length=y9.1.length) (some (y10.1,(⟨y10.2.1,p7,p8⟩:s7),())) none) (br (y9.2.1==1) ((C4 y9.1 ([(-1),4,5]:List Int)).bind λy11=>iteP (y11.1.length=y9.1.length) (some (y11.1,(⟨p6,y11.2.1,p8⟩:s7),())) none) (br (y9.2.1==2) ((C4 y9.1 ([(-1),0,1049,1050]:List Int)).bind λy12=>iteP (y12.1.length=y9.1.length) (some (y12.1,(⟨p6,p7,y12.2.1⟩:s7),())) none) (some (y9.1,(⟨p6,p7,p8⟩:s7),()))))) none;br (!y1.2.1) ((CT y1.1 3).bind λy2=>iteP (y2.1.length=y1.1.length) ((CT y2.1 3).bind λy3=>iteP (y3.1.length=y2.1.length) ((CT y3.1 20).bind λy4=>iteP (y4.1.length=y3.1.length) (j17 y4.1 (acK .i64 (1+y2.2.1)) y3.2.1 (acK .i64 (1+y4.2.1))) none) none) none) (j17 y1.1 0 0 0)) none
def YK[dp] :=R4 149 Tryz.f149 (.st .cur) [] [.st .lease] (λl _=>Ox l) [Iq,Ee,Eg] [] (by kernel_rfl) λl x=>by simp only[Ox,tm,-eq_self];kernel_rfl
def Qn[dp](a0:List o0):Option ((List o0)×(List tc)×Unit):=
 (Kz a0).bind λy1=>iteP (y1.1.length=a0.length) ((CT y1.1 14).bind λy2=>iteP (y2.1.length=y1.1.length) (br (y2.2.1==0) (iteP (0<=(1:Int)/\(1:Int)<=(y1.2.1.length:Int)/\(y1.2.1.length:Int)<=((y1.2.1.length:Nat):Int)) (iteP ((0+(1:Int).toNat)=0/\((y1.2.1.length:Int).toNat-(1:Int).toNat)<=y1.2.1.length) (some (y2.1,(y1.2.1.take ((y1.2.1.length:Int).toNat-(1:Int).toNat)),())) (iteP ((0+(1:Int).toNat)+((y1.2.1.length:Int).toNat-(1:Int).toNat)<=y1.2.1.length) (some (y2.1,((y1.2.1.drop (0+(1:Int).toNat)).take ((y1.2.1.length:Int).toNat-(1:Int).toNat)),())) none)) none) (br (y2.2.1==1) ((C4 y2.1 ([(-1),9,10]:List Int)).bind λy3=>iteP (y3.1.length=y2.1.length) (iteP (0<=(0:Int)/\(0:Int)< (y1.2.1.length:Int)) ((y1.2.1[(0:Int).toNat]?).bind λx4=>some (y3.1,(y1.2.1.set ((0:Int).toNat) (⟨y3.2.1,x4.capacity,x4.load⟩:tc)),())) none) none) (br (y2.2.1==2) ((C4 y2.1 ([(-1),99,100]:List Int)).bind λy6=>iteP (y6.1.length=y2.1.length) (iteP (0<=(1:Int)/\(1:Int)< (y1.2.1.length:Int)) ((y1.2.1[(1:Int).toNat]?).bind λx7=>some (y6.1,(y1.2.1.set ((1:Int).toNat) (⟨x7.rack,x7.capacity,y6.2.1⟩:tc)),())) none) none) (some (y2.1,y1.2.1,()))))) none) none
def Z5[dp] :=R4 150 Tryz.f150 (.st .cur) [] [.ls (.st .place)] (λl _=>Qn l) [SF,Ee,Eg] [] (by kernel_rfl) λl x=>by simp only[Qn,tm,-eq_self];kernel_rfl
abbrev Ut:LX:=⟨⟨[SP,Xh,LP,Mu],[],Xr,1,27⟩,[(.ext 0,⟨[Xh],[],Xr,1,27⟩)],[],[0,3,4,5],[3]⟩
def Nb[dp](s: (Unit×Unit×Int×Int×Unit)×Unit×List o0×List pZ×Unit):Ut.R:=
 br (decide (s.1.2.2.2.1>0)) ((EP s.2.2.1 3).bind λy6=>iteP (y6.1.length=s.2.2.1.length) (br y6.2.1 ((MV y6.1).bind λy9=>iteP (y9.1.length=y6.1.length) (iteP ((s.2.2.2.1++([(⟨(acK .i64 (s.1.2.2.1+1)),y9.2.1⟩:pZ)]:List pZ)).length*56<=2 ^ 40) (some (.inl (((),(),(acK .i64 (s.1.2.2.1+1)),(acK .i64 (s.1.2.2.2.1-1)),()),(()),y9.1,(s.2.2.2.1++([(⟨(acK .i64 (s.1.2.2.1+1)),y9.2.1⟩:pZ)]:List pZ)),()))) none) none) ((MV y6.1).bind λy10=>iteP (y10.1.length=y6.1.length) (iteP ((s.2.2.2.1++([(⟨s.1.2.2.1,y10.2.1⟩:pZ)]:List pZ)).length*56<=2 ^ 40) (some (.inl (((),(),s.1.2.2.1,(acK .i64 (s.1.2.2.2.1-1)),()),(()),y10.1,(s.2.2.2.1++([(⟨s.1.2.2.1,y10.2.1⟩:pZ)]:List pZ)),()))) none) none)) none) (some (.inr (((),()),(()),s.2.2)))
def Uk[dp] :=mu Nb
def X8[dp] :=F6 Tryz.f260 [0] Ut Nb [Iq,UT] [] (by kernel_rfl) λs=>by simp only[Nb,tm,-eq_self];kernel_rfl
def Pj[dp](a0:List o0):Option ((List o0)×(List pZ)×Unit):=
 (CT a0 7).bind λy1=>iteP (y1.1.length=a0.length) ((Uk (((),(),1,y1.2.1,()),(()),y1.1,([]:List pZ),())).bind λe14=>some e14.2.2) none
def Xa[dp] :=R4 260 Tryz.f260 (.st .cur) [] TV (λl _=>Pj l) [Ee] [X8] (by kernel_rfl) λl x=>by simp only[Pj,tm,-eq_self];kernel_rfl
abbrev SY:LX:=⟨⟨[Ly,Ka,Mu],[],[],0,25⟩,[(.ext 0,⟨[Ly,Mu],[],[],0,25⟩)],[],[0,1,5],[0,5]⟩
def NS(s: (List pZ×Int×Int×Unit)×Unit×Unit):SY.R:=
 br (decide (s.1.2.2.1< (s.1.1.length:Int))) (iteP (0<=s.1.2.2.1) ((s.1.1[s.1.2.2.1.toNat]?).bind λx4=>br (decide (x4.epoch<=s.1.2.1)) (some (.inl ((s.1.1,s.1.2.1,(acK .i64 (s.1.2.2.1+1)),()),(()),(())))) (some (.inr ((s.1.1,s.1.2.2),(()),(()))))) none) (some (.inr ((s.1.1,s.1.2.2),(()),(()))))
def WD:=mu NS
def WQ[dp] :=F6 Tryz.f259 [0] SY NS [] [] (by kernel_rfl) λs=>by simp only[NS,tm];kernel_rfl
def Oz(a0:List pZ)(a1:Int):Option ((List pZ)×Unit):=
 (WD ((a0,a1,0,()),(()),(()))).bind λe5=>iteP (0<=(0:Int)/\(0:Int)<=e5.1.2.1/\e5.1.2.1<=(e5.1.1.length:Int)) ((EF ((e5.1.1.drop (0:Int).toNat).take (e5.1.2.1.toNat-(0:Int).toNat))).bind λy6=>some (y6.1,())) none
def YM[dp] :=Dh 259 Tryz.f259 YW TV (λx=>Oz x.1 x.2.1) [I5] [WQ] (by kernel_rfl) λx=>by simp only[Oz,tm];kernel_rfl
def K5[dp](a0:List o0):Option ((List o0)×o4×Int×Unit):=
 (CT a0 2).bind λy1=>iteP (y1.1.length=a0.length) ((JC (acK .i64 (1+y1.2.1))).bind λy2=>(CT y1.1 3).bind λy3=>iteP (y3.1.length=y1.1.length) ((Js y3.1 (acK .i64 (1+y3.2.1))).bind λy4=>iteP (y4.1.length=y3.1.length) ((DN y4.2.1).bind λy5=>(CT y4.1 (y5.1.length:Int)).bind λy6=>iteP (y6.1.length=y4.1.length) (iteP (0<=y6.2.1/\y6.2.1< (y5.1.length:Int)) ((y5.1[y6.2.1.toNat]?).bind λx7=>(EP y6.1 5).bind λy8=>iteP (y8.1.length=y6.1.length) (br (!y8.2.1) ((Pj y8.1).bind λy9=>iteP (y9.1.length=y8.1.length) ((Oz y9.2.1 y4.2.1.epoch).bind λy10=>(D7 y2.1 y4.2.1 x7 y10.1).bind λy11=>(EP y9.1 4).bind λy44=>iteP (y44.1.length=y9.1.length) (let j62 (p45:Bool):Option ((List o0)×o4×Int×Unit):=(EP y44.1 4).bind λy46=>iteP (y46.1.length=y44.1.length) (br y46.2.1 ((CT y46.1 3).bind λy47=>iteP (y47.1.length=y46.1.length) ((FE (⟨p45,y11.1.intact,y11.1.version,y11.1.epoch,y11.1.config,y11.1.first,y11.1.log,y11.1.commit,y11.1.learned⟩:o4) (acK .i64 (4+y47.2.1))).bind λy48=>some (y47.1,y48.1,x7,())) none) (some (y46.1,(⟨p45,y11.1.intact,y11.1.version,y11.1.epoch,y11.1.config,y11.1.first,y11.1.log,y11.1.commit,y11.1.learned⟩:o4),x7,()))) none;br y44.2.1 (j62 false) (j62 y11.1.up)) none) none) ((EP y8.1 4).bind λy63=>iteP (y63.1.length=y8.1.length) (let j81 (p64:Bool):Option ((List o0)×o4×Int×Unit):=(EP y63.1 4).bind λy65=>iteP (y65.1.length=y63.1.length) (br y65.2.1 ((CT y65.1 3).bind λy66=>iteP (y66.1.length=y65.1.length) ((FE (⟨p64,y2.1.intact,y2.1.version,y2.1.epoch,y2.1.config,y2.1.first,y2.1.log,y2.1.commit,y2.1.learned⟩:o4) (acK .i64 (4+y66.2.1))).bind λy67=>some (y66.1,y67.1,x7,())) none) (some (y65.1,(⟨p64,y2.1.intact,y2.1.version,y2.1.epoch,y2.1.config,y2.1.first,y2.1.log,y2.1.commit,y2.1.learned⟩:o4),x7,()))) none;br y63.2.1 (j81 false) (j81 y2.1.up)) none)) none) none) none) none) none) none
def Vy[dp] :=R4 232 Tryz.f232 (.st .cur) [] [.st .server,.i .i64] (λl _=>K5 l) [Ee,Re,PY,Ip,Iq,Xa,YM,Od,Qy] [] (by kernel_rfl) λl x=>by simp only[K5,tm,-eq_self];kernel_rfl
def Ql[dp](a0:List o0):Option ((List o0)×Op×Unit):=
 (MV a0).bind λy1=>iteP (y1.1.length=a0.length) ((CT y1.1 14).bind λy2=>iteP (y2.1.length=y1.1.length) (br (y2.2.1==0) ((C4 y2.1 ([(-1),2,3]:List Int)).bind λy3=>iteP (y3.1.length=y2.1.length) (some (y3.1,(⟨y3.2.1,y1.2.1.seq,y1.2.1.kind,y1.2.1.object,y1.2.1.old,y1.2.1.value⟩:Op),())) none) (br (y2.2.1==1) ((C4 y2.1 ([0,99,100]:List Int)).bind λy4=>iteP (y4.1.length=y2.1.length) (some (y4.1,(⟨y1.2.1.client,y4.2.1,y1.2.1.kind,y1.2.1.object,y1.2.1.old,y1.2.1.value⟩:Op),())) none) (br (y2.2.1==2) ((CT y2.1 4).bind λy5=>iteP (y5.1.length=y2.1.length) (some (y5.1,(⟨y1.2.1.client,y1.2.1.seq,y5.2.1,y1.2.1.object,y1.2.1.old,y1.2.1.value⟩:Op),())) none) (br (y2.2.1==3) ((C4 y2.1 ([(-1),3]:List Int)).bind λy6=>iteP (y6.1.length=y2.1.length) (some (y6.1,(⟨y1.2.1.client,y1.2.1.seq,y1.2.1.kind,y6.2.1,y1.2.1.old,y1.2.1.value⟩:Op),())) none) (br (y2.2.1==4) ((C4 y2.1 ([(-1),9,10]:List Int)).bind λy7=>iteP (y7.1.length=y2.1.length) (some (y7.1,(⟨y1.2.1.client,y1.2.1.seq,y1.2.1.kind,y1.2.1.object,y1.2.1.old,y7.2.1⟩:Op),())) none) (br (y2.2.1==5) ((C4 y2.1 ([(-1),0,9,10]:List Int)).bind λy8=>iteP (y8.1.length=y2.1.length) (some (y8.1,(⟨y1.2.1.client,y1.2.1.seq,y1.2.1.kind,y1.2.1.object,y8.2.1,y1.2.1.value⟩:Op),())) none) (some (y2.1,y1.2.1,())))))))) none) none
def Z3[dp] :=R4 131 Tryz.f131 (.st .cur) [] [.st .op] (λl _=>Ql l) [UT,Ee,Eg] [] (by kernel_rfl) λl x=>by simp only[Ql,tm,-eq_self];kernel_rfl
abbrev Us:LX:=⟨⟨[SP,Xh],[],Xr,1,33⟩,[(.ext 1,⟨[Xh],[],Xr,1,33⟩)],[],[0,3],[3]⟩
def LW[dp](s:Zc×Unit×List o0×List pZ×Unit):Us.R:=
 br (decide ((s.2.2.2.1.length:Int)<17)) ((MV s.2.2.1).bind λy7=>iteP (y7.1.length=s.2.2.1.length) (iteP ((s.2.2.2.1++([(⟨20,y7.2.1⟩:pZ)]:List pZ)).length*56<=2 ^ 40) (some (.inl (((),(),()),(()),y7.1,(s.2.2.2.1++([(⟨20,y7.2.1⟩:pZ)]:List pZ)),()))) none) none) (some (.inr (((),()),(()),s.2.2)))
def Uj[dp] :=mu LW
def X7[dp] :=F6 Tryz.f233 [0] Us LW [UT] [] (by kernel_rfl) λs=>by simp only[LW,tm,-eq_self];kernel_rfl
def Qm[dp](a0:List o0):Option ((List o0)×(List pZ)×Unit):=
 (Pj a0).bind λy1=>iteP (y1.1.length=a0.length) ((CT y1.1 14).bind λy2=>iteP (y2.1.length=y1.1.length) (br (y2.2.1==0) ((C4 y2.1 ([0,1,20,21]:List Int)).bind λy3=>iteP (y3.1.length=y2.1.length) ((Ql y3.1).bind λy4=>iteP (y4.1.length=y3.1.length) (iteP ((y1.2.1++([(⟨y3.2.1,y4.2.1⟩:pZ)]:List pZ)).length*56<=2 ^ 40) (some (y4.1,(y1.2.1++([(⟨y3.2.1,y4.2.1⟩:pZ)]:List pZ)),())) none) none) none) (br (y2.2.1==1) ((Uj (((),(),()),(()),y2.1,y1.2.1,())).bind λe8=>some e8.2.2) (some (y2.1,y1.2.1,())))) none) none
def Z4[dp] :=R4 233 Tryz.f233 (.st .cur) [] TV (λl _=>Qm l) [Xa,Ee,Eg,Z3] [X7] (by kernel_rfl) λl x=>by simp only[Qm,tm,-eq_self];kernel_rfl
def Oy[dp](a0:List o0):Option ((List o0)×o4×Int×Unit):=
 (K5 a0).bind λy1=>iteP (y1.1.length=a0.length) ((CT y1.1 16).bind λy2=>iteP (y2.1.length=y1.1.length) (let j21 (p10:List o0) (p11:Int) (p12:Int) (p13:Int) (p14:Int) (p15:List Int) (p16:List Int) (p17:Int) (p18:List pZ) (p19:Int) (p20:Int):Option ((List o0)×o4×Int×Unit):=some (p10,(⟨y1.2.1.up,y1.2.1.intact,p11,p12,(⟨p13,p14,p15,p16⟩:mD),p17,p18,p19,y1.2.1.learned⟩:o4),p20,());br (y2.2.1==0) ((C4 y2.1 ([0,1,3]:List Int)).bind λy3=>iteP (y3.1.length=y2.1.length) (j21 y3.1 y3.2.1 y1.2.1.epoch y1.2.1.config.epoch y1.2.1.config.primary y1.2.1.config.replicas y1.2.1.config.witnesses y1.2.1.first y1.2.1.log y1.2.1.commit y1.2.2.1) none) (br (y2.2.1==1) ((C4 y2.1 ([(-1),0,20,21]:List Int)).bind λy4=>iteP (y4.1.length=y2.1.length) (j21 y4.1 y1.2.1.version y4.2.1 y1.2.1.config.epoch y1.2.1.config.primary y1.2.1.config.replicas y1.2.1.config.witnesses y1.2.1.first y1.2.1.log y1.2.1.commit y1.2.2.1) none) (br (y2.2.1==2) ((Pk y2.1).bind λy5=>iteP (y5.1.length=y2.1.length) (j21 y5.1 y1.2.1.version y1.2.1.epoch y5.2.1.epoch y5.2.1.primary y5.2.1.replicas y5.2.1.witnesses y1.2.1.first y1.2.1.log y1.2.1.commit y1.2.2.1) none) (br (y2.2.1==3) ((C4 y2.1 ([(-1),0,2,17]:List Int)).bind λy6=>iteP (y6.1.length=y2.1.length) (j21 y6.1 y1.2.1.version y1.2.1.epoch y1.2.1.config.epoch y1.2.1.config.primary y1.2.1.config.replicas y1.2.1.config.witnesses y1.2.1.first y1.2.1.log y6.2.1 y1.2.2.1) none) (br (y2.2.1==4) ((C4 y2.1 ([(-1),0,2,9223372036854775807]:List Int)).bind λy7=>iteP (y7.1.length=y2.1.length) (j21 y7.1 y1.2.1.version y1.2.1.epoch y1.2.1.config.epoch y1.2.1.config.primary y1.2.1.config.replicas y1.2.1.config.witnesses y7.2.1 y1.2.1.log y1.2.1.commit y1.2.2.1) none) (br (y2.2.1==5) ((CT y2.1 7).bind λy8=>iteP (y8.1.length=y2.1.length) (j21 y8.1 y1.2.1.version y1.2.1.epoch y1.2.1.config.epoch y1.2.1.config.primary y1.2.1.config.replicas y1.2.1.config.witnesses y1.2.1.first y1.2.1.log y1.2.1.commit (acK .i64 (y8.2.1-1))) none) (br (y2.2.1==6) ((Qm y2.1).bind λy9=>iteP (y9.1.length=y2.1.length) (j21 y9.1 y1.2.1.version y1.2.1.epoch y1.2.1.config.epoch y1.2.1.config.primary y1.2.1.config.replicas y1.2.1.config.witnesses y1.2.1.first y9.2.1 y1.2.1.commit y1.2.2.1) none) (j21 y2.1 y1.2.1.version y1.2.1.epoch y1.2.1.config.epoch y1.2.1.config.primary y1.2.1.config.replicas y1.2.1.config.witnesses y1.2.1.first y1.2.1.log y1.2.1.commit y1.2.2.1)))))))) none) none
def YL[dp] :=R4 151 Tryz.f151 (.st .cur) [] [.st .server,.i .i64] (λl _=>Oy l) [Vy,Ee,Eg,Xb,Z4] [] (by kernel_rfl) λl x=>by simp only[Oy,tm,-eq_self];kernel_rfl
def Nh[dp](a0:List o0):Option ((List o0)×oZ×Unit):=
 (JX a0).bind λy1=>iteP (y1.1.length=a0.length) ((CT y1.1 20).bind λy2=>iteP (y2.1.length=y1.1.length) (br (y2.2.1==0) ((C4 y2.1 ([(-1),998,999,1000]:List Int)).bind λy3=>iteP (y3.1.length=y2.1.length) (some (y3.1,(⟨y3.2.1,y1.2.1.servers,y1.2.1.sides,y1.2.1.master,y1.2.1.masterUp,y1.2.1.lease,y1.2.1.places⟩:oZ),())) none) (br (y2.2.1==1) ((OA y2.1).bind λy4=>iteP (y4.1.length=y2.1.length) (some (y4.1,(⟨y1.2.1.now,y1.2.1.servers,y4.2.1,y1.2.1.master,y1.2.1.masterUp,y1.2.1.lease,y1.2.1.places⟩:oZ),())) none) (br (y2.2.1==2) ((Ov y2.1).bind λy5=>iteP (y5.1.length=y2.1.length) (some (y5.1,(⟨y1.2.1.now,y1.2.1.servers,y1.2.1.sides,y5.2.1,y1.2.1.masterUp,y1.2.1.lease,y1.2.1.places⟩:oZ),())) none) (br (y2.2.1==3) ((C4 y2.1 ([(-1),3,4]:List Int)).bind λy6=>iteP (y6.1.length=y2.1.length) (some (y6.1,(⟨y1.2.1.now,y1.2.1.servers,y1.2.1.sides,y1.2.1.master,y6.2.1,y1.2.1.lease,y1.2.1.places⟩:oZ),())) none) (br (y2.2.1==4) ((Ox y2.1).bind λy7=>iteP (y7.1.length=y2.1.length) (some (y7.1,(⟨y1.2.1.now,y1.2.1.servers,y1.2.1.sides,y1.2.1.master,y1.2.1.masterUp,y7.2.1,y1.2.1.places⟩:oZ),())) none) (br (y2.2.1==5) ((Qn y2.1).bind λy8=>iteP (y8.1.length=y2.1.length) (some (y8.1,(⟨y1.2.1.now,y1.2.1.servers,y1.2.1.sides,y1.2.1.master,y1.2.1.masterUp,y1.2.1.lease,y8.2.1⟩:oZ),())) none) (br (y2.2.1==6) ((Oy y2.1).bind λy9=>iteP (y9.1.length=y2.1.length) ((CT y9.1 5).bind λy10=>iteP (y10.1.length=y9.1.length) (iteP (0<=y10.2.1/\y10.2.1< (y1.2.1.servers.length:Int)) ((y1.2.1.servers[y10.2.1.toNat]?).bind λ_=>some (y10.1,(⟨y1.2.1.now,(y1.2.1.servers.set y10.2.1.toNat y9.2.1),y1.2.1.sides,y1.2.1.master,y1.2.1.masterUp,y1.2.1.lease,y1.2.1.places⟩:oZ),())) none) none) none) (some (y2.1,y1.2.1,()))))))))) none) none
def Vz[dp] :=R4 46 Tryz.f46 (.st .cur) [] RR (λl _=>Nh l) [US,Ee,Eg,YN,YI,YK,Z5,YL] [] (by kernel_rfl) λl x=>by simp only[Nh,tm,-eq_self];kernel_rfl
def GL[dp](a0:Hd):Option (oZ×Int×Int×Unit):=
 (R5 a0).bind λy1=>(Nh y1.1).bind λy2=>iteP (y2.1.length=y1.1.length) ((CT y2.1 5).bind λy3=>iteP (y3.1.length=y2.1.length) ((C4 y3.1 ([1,10,50,51]:List Int)).bind λy4=>iteP (y4.1.length=y3.1.length) (some (y2.2.1,y3.2.1,y4.2.1,())) none) none) none
def Qw[dp] :=Dh 8 Tryz.f8 [.ty (.h)] abm (λx=>GL x.1) [W9,Vz,Ee,Eg] [] (by kernel_rfl) λx=>by simp only[GL,tm,-eq_self];kernel_rfl
def C0(a0:Int)(a1:Int)(a2:Int):Option (Bool×Unit):=
 br (decide (a1<=a0)) (some ((decide (a0<=a2)),())) (some (false,()))
def D9[dp] :=Dh 50 Tryz.f50 YT [.b] (λx=>C0 x.1 x.2.1 x.2.2.1) [] [] (by kernel_rfl) λx=>by simp only[C0,tm];kernel_rfl
def KR(a0:Int):Option (Bool×Unit):=
 (C0 a0 0 3).bind λy1=>some ((!y1.1),())
def TA[dp] :=Dh 234 Tryz.f234 UY [.b] (λx=>KR x.1) [D9] [] (by kernel_rfl) λx=>by simp only[KR,tm];kernel_rfl
abbrev G0:LX:=⟨⟨[M2,(1,.cl (.fc 234)),M3,NC],[],[],0,19⟩,[(.ret,⟨[LP],[],[],0,19⟩),(.ext 0,⟨[MR],[],[],0,19⟩)],[],[0,1,7,8],[4]⟩
def DB(s: (List Int×Unit×Int×Int×Unit)×Unit×Unit):G0.R:=
 br (decide (s.1.2.2.2.1<s.1.2.2.1)) (iteP (0<=s.1.2.2.2.1) ((s.1.1[s.1.2.2.2.1.toNat]?).bind λx4=>(KR x4).bind λy5=>br y5.1 (some (.inr (.inl (s.1.2.2.2,(()),(()))))) (some (.inl ((s.1.1,(),s.1.2.2.1,(acK .i64 (s.1.2.2.2.1+1)),()),(()),(()))))) none) (some (.inr (.inr (((),()),(()),(())))))
def Fr:=mu DB
def Km[dp] :=F6 Tryz.f179 [0] G0 DB [TA] [] (by kernel_rfl) λs=>by simp only[DB,tm];kernel_rfl
def EL(a0:List Int):Option (Int×Unit):=
 (Fr ((a0,(),(a0.length:Int),0,()),(()),(()))).bind λe6=>Sum.elim (λe6_0=>some e6_0.1) (λ_=>some ((-1),())) e6
def Lh[dp] :=Dh 179 Tryz.f179 aaX Iv (λx=>EL x.1) [] [Km] (by kernel_rfl) λx=>by simp only[EL,tm];kernel_rfl
def Ej(a0:List Int):Option (Bool×Unit):=
 (EL a0).bind λy1=>some ((decide (y1.1≥0)),())
def J3[dp] :=Dh 68 Tryz.f68 aaX [.b] (λx=>Ej x.1) [Lh] [] (by kernel_rfl) λx=>by simp only[Ej,tm];kernel_rfl
def Jq(a0:List Int):Option (Bool×Unit):=
 br ((a0.length:Int)==5) ((Ej a0).bind λy1=>some ((!y1.1),())) (some (false,()))
def Sl[dp] :=Dh 153 Tryz.f153 WF [.b] (λx=>Jq x.1) [J3] [] (by kernel_rfl) λx=>by simp only[Jq,tm];kernel_rfl
abbrev OZ:LX:=⟨⟨[M2,(5,.cl (.ro (.i .i64))),Mt,M3],[],[],0,29⟩,[(.ret,⟨[NA],[],[],0,29⟩),(.ext 0,⟨[Ms],[],[],0,29⟩)],[],[0,5,6,7],[2]⟩
def E6(s:abj×Unit×Unit):OZ.R:=
 br (decide (s.1.2.2.2.1<s.1.2.2.1)) (iteP (0<=s.1.2.2.2.1) ((s.1.2.1[s.1.2.2.2.1.toNat]?).bind λx5=>(C0 x5 0 4).bind λy6=>br (!y6.1) (some (.inr (.inl ((false,()),(()),(()))))) (br (decide (s.1.2.2.2.1>0)) (iteP (0<=(acK .i64 (s.1.2.2.2.1-1))) ((s.1.1[(acK .i64 (s.1.2.2.2.1-1)).toNat]?).bind λx7=>br (decide (x5<=x7)) (some (.inr (.inl ((false,()),(()),(()))))) (some (.inl ((s.1.1,s.1.2.1,s.1.2.2.1,(acK .i64 (s.1.2.2.2.1+1)),()),(()),(()))))) none) (some (.inl ((s.1.1,s.1.2.1,s.1.2.2.1,(acK .i64 (s.1.2.2.2.1+1)),()),(()),(())))))) none) (some (.inr (.inr (((),()),(()),(())))))
def J5:=mu E6
def S6[dp] :=F6 Tryz.f92 [0] OZ E6 [D9] [] (by kernel_rfl) λs=>by simp only[E6,tm];kernel_rfl
def Eh(a0:List Int):Option (Bool×Unit):=
 (J5 ((a0,a0,(a0.length:Int),0,()),(()),(()))).bind λe8=>Sum.elim (λe8_0=>some e8_0.1) (λ_=>some (true,())) e8
def LJ[dp] :=Dh 92 Tryz.f92 WF [.b] (λx=>Eh x.1) [] [S6] (by kernel_rfl) λx=>by simp only[Eh,tm];kernel_rfl
abbrev Pc:LX:=⟨⟨[M2,Ka,M3,NC],[],[],0,19⟩,[(.ret,⟨[LP],[],[],0,19⟩),(.ext 0,⟨[MR],[],[],0,19⟩)],[],[0,1,7,8],[4]⟩
def G8(s: (List Int×Int×Int×Int×Unit)×Unit×Unit):Pc.R:=
 br (decide (s.1.2.2.2.1<s.1.2.2.1)) (iteP (0<=s.1.2.2.2.1) ((s.1.1[s.1.2.2.2.1.toNat]?).bind λx5=>br (s.1.2.1==x5) (some (.inr (.inl (s.1.2.2.2,(()),(()))))) (some (.inl ((s.1.1,s.1.2.1,s.1.2.2.1,(acK .i64 (s.1.2.2.2.1+1)),()),(()),(()))))) none) (some (.inr (.inr (((),()),(()),(())))))
def Mr:=mu G8
def Tm[dp] :=F6 Tryz.f240 [0] Pc G8 [] [] (by kernel_rfl) λs=>by simp only[G8,tm];kernel_rfl
def LI(a0:List Int)(a1:Int):Option (Int×Unit):=
 (Mr ((a0,a1,(a0.length:Int),0,()),(()),(()))).bind λe6=>Sum.elim (λe6_0=>some e6_0.1) (λ_=>some ((-1),())) e6
def UU[dp] :=Dh 240 Tryz.f240 VH Iv (λx=>LI x.1 x.2.1) [] [Tm] (by kernel_rfl) λx=>by simp only[LI,tm];kernel_rfl
def Jj(a0:List Int)(a1:Int):Option (Bool×Unit):=
 (LI a0 a1).bind λy1=>some ((decide (y1.1≥0)),())
def RN[dp] :=Dh 183 Tryz.f183 VH [.b] (λx=>Jj x.1 x.2.1) [UU] [] (by kernel_rfl) λx=>by simp only[Jj,tm];kernel_rfl
def EH(a0:List Int)(a1:Int):Option (Bool×Unit):=
 (Jj a0 a1).bind λy1=>some (y1.1,())
def JD[dp] :=Dh 81 Tryz.f81 VH [.b] (λx=>EH x.1 x.2.1) [RN] [] (by kernel_rfl) λx=>by simp only[EH,tm];kernel_rfl
def FG(a0:List Int):Option ((List Int)×Unit):=iteP (a0.length*8<=2 ^ 40) (some (a0,())) none
def N3[dp] :=coC 78 Tryz.f78 (.i .i64) 8 FG (by kernel_rfl) (λ_=>rfl) λ_=>by kernel_rfl
def PT(a0:Int):Option (Int×Unit):=
 br (decide (a0≥4294967296)) (none) (br (decide (a0≥65536)) (none) (br (decide (a0≥256)) (none) (iteP (0<=(acK .u8 a0)) ((sb0[(acK .u8 a0).toNat]?).bind λx1=>some ((acK .i64 (0+(acK .i64 (x1.toNat:Int)))),())) none)))
def Wj[dp] :=Dh 284 Tryz.f284 [.ty (.i .u64)] Iv (λx=>PT x.1) [] [] (by kernel_rfl) λx=>by simp only[PT,tm];kernel_rfl
def Ou(a0:Int):Option (Int×Unit):=
 (PT a0).bind λy1=>some (y1.1,())
def YF[dp] :=Dh 264 Tryz.f264 [.ty (.i .u64)] Iv (λx=>Ou x.1) [Wj] [] (by kernel_rfl) λx=>by simp only[Ou,tm];kernel_rfl
def HV(a0:Int):Option (Bool×Unit):=
 some ((!(a0==a0)),())
def Tw[dp] :=Dh 304 Tryz.f304 UY [.b] (λx=>HV x.1) [] [] (by kernel_rfl) λx=>by simp only[HV,tm];kernel_rfl
def Hv(a0:Int)(a1:Int):Option (Bool×Unit):=
 (HV a0).bind λy1=>br y1.1 ((HV a1).bind λy2=>br (!y2.1) (some (true,())) (some ((decide (a0<a1)),()))) (some ((decide (a0<a1)),()))
def Uw[dp] :=Dh 280 Tryz.f280 aaY [.b] (λx=>Hv x.1 x.2.1) [Tw] [] (by kernel_rfl) λx=>by simp only[Hv,tm];kernel_rfl
abbrev GN:LX:=⟨⟨[ND,Ka,PE,Mt,M3],[],F0,1,49⟩,[(.ext 2,⟨[ND,Ka,PE,Mt],[],F0,1,49⟩)],[],[0,1,2,6,7],[0,1,2,6]⟩
def Df(s: (Unit×Int×Int×Int×Int×Unit)×Unit×List Int×Unit):GN.R:=
 br (decide (s.1.2.2.2.2.1>s.1.2.1)) (iteP (0<=s.1.2.2.2.2.1/\s.1.2.2.2.2.1< (s.2.2.1.length:Int)) ((s.2.2.1[s.1.2.2.2.2.1.toNat]?).bind λx10=>iteP (0<=(acK .i64 (s.1.2.2.2.2.1-1))/\(acK .i64 (s.1.2.2.2.2.1-1))< (s.2.2.1.length:Int)) ((s.2.2.1[(acK .i64 (s.1.2.2.2.2.1-1)).toNat]?).bind λx11=>(Hv x10 x11).bind λy12=>br y12.1 (iteP (0<=(acK .i64 (s.1.2.2.2.2.1-1))/\(acK .i64 (s.1.2.2.2.2.1-1))< (s.2.2.1.length:Int)) ((s.2.2.1[(acK .i64 (s.1.2.2.2.2.1-1)).toNat]?).bind λx13=>iteP (0<=s.1.2.2.2.2.1/\s.1.2.2.2.2.1< (s.2.2.1.length:Int)) ((s.2.2.1[s.1.2.2.2.2.1.toNat]?).bind λx14=>iteP (0<=s.1.2.2.2.2.1/\s.1.2.2.2.2.1< (s.2.2.1.length:Int)) (iteP (0<=(acK .i64 (s.1.2.2.2.2.1-1))/\(acK .i64 (s.1.2.2.2.2.1-1))< (s.2.2.1.length:Int)) ((s.2.2.1[s.1.2.2.2.2.1.toNat]?).bind λ_=>let z16:=s.2.2.1.set s.1.2.2.2.2.1.toNat x13;(z16[(acK .i64 (s.1.2.2.2.2.1-1)).toNat]?).bind λ_=>some (.inl (((),s.1.2.1,s.1.2.2.1,s.1.2.2.2.1,(acK .i64 (s.1.2.2.2.2.1-1)),()),(()),(z16.set ((acK .i64 (s.1.2.2.2.2.1-1)).toNat) x14),()))) none) none) none) none) (some (.inr (((),s.1.2.1,s.1.2.2.1,s.1.2.2.2.1,()),(()),s.2.2)))) none) none) (some (.inr (((),s.1.2.1,s.1.2.2.1,s.1.2.2.2.1,()),(()),s.2.2)))
def Em:=mu Df
def Kf[dp] :=F6 Tryz.f274 [0,0] GN Df [Uw] [] (by kernel_rfl) λs=>by simp only[Df,tm];kernel_rfl
abbrev GM:LX:=⟨⟨[ND,Ka,PE,Mt],[],F0,1,49⟩,[(.ext 0,⟨[],[],F0,1,49⟩)],[],[0,1,2,6],[]⟩
def CZ(s: (Unit×Int×Int×Int×Unit)×Unit×List Int×Unit):GM.R:=
 br (decide (s.1.2.2.2.1<s.1.2.2.1)) ((Em (((),s.1.2.1,s.1.2.2.1,s.1.2.2.2.1,s.1.2.2.2),(()),s.2.2)).bind λe19=>some (.inl (((),e19.1.2.1,e19.1.2.2.1,(acK .i64 (e19.1.2.2.2.1+1)),()),(()),e19.2.2))) (some (.inr ((()),(()),s.2.2)))
def El:=mu CZ
def Ke[dp] :=F6 Tryz.f274 [0] GM CZ [] [Kf] (by kernel_rfl) λs=>by simp only[CZ,tm];kernel_rfl
def Dp(a0:List Int)(a1:Int)(a2:Int):Option ((List Int)×Unit):=
 (El (((),a1,a2,(acK .i64 (a1+1)),()),(()),a0,())).bind λe20=>some e20.2.2
def KD[dp] :=coI 274 Tryz.f274 (.i .i64) aaY [] (λl x=>Dp l x.1 x.2.1) [] [Ke] (by kernel_rfl) λl x=>by simp only[Dp,tm];kernel_rfl
abbrev Ix:LX:=⟨⟨[ND,Ka,PE,MH,VL,PG],[],F0,1,134⟩,[(.ret,⟨[],[],F0,1,134⟩)],[],[0,1,2,3,8,9],[]⟩
def Er(s: (Unit×Int×Int×Int×Bool×Bool×Unit)×Unit×List Int×Unit):Ix.R:=
 br (decide ((acK .i64 (s.1.2.2.1-s.1.2.1))<=12)) ((Dp s.2.2.1 s.1.2.1 s.1.2.2.1).bind λy7=>iteP (y7.1.length=s.2.2.1.length) (some (.inr ((()),(()),y7.1,()))) none) (br (s.1.2.2.2.1==0) (none) (br (!s.1.2.2.2.2.1) (none) (none)))
def Gl:=mu Er
def MF[dp] :=F6 Tryz.f263 [0] Ix Er [KD] [] (by kernel_rfl) λs=>by simp only[Er,tm,-eq_self];kernel_rfl
def DS(a0:List Int)(a1:Int)(a2:Int)(a3:Int):Option ((List Int)×Unit):=
 (Gl (((),a1,a2,a3,true,true,()),(()),a0,())).bind λe8=>some e8.2.2
def MY[dp] :=coI 263 Tryz.f263 (.i .i64) YT [] (λl x=>DS l x.1 x.2.1 x.2.2.1) [] [MF] (by kernel_rfl) λl x=>by simp only[DS,tm];kernel_rfl
def Gk(a0:List Int):Option ((List Int)×Unit):=
 (Ou (acK .u64 (a0.length:Int))).bind λy1=>(DS a0 0 (a0.length:Int) y1.1).bind λy2=>iteP (y2.1.length=a0.length) (some (y2.1,())) none
def SK[dp] :=coI 241 Tryz.f241 (.i .i64) [] [] (λl _=>Gk l) [YF,MY] [] (by kernel_rfl) λl x=>by simp only[Gk,tm,-eq_self];kernel_rfl
abbrev LA:LX:=⟨⟨[ND,MH,(4,.cl (.sub 0 (.i .i64))),Mu],[],F0,0,61⟩,[(.ext 2,⟨[ND,MH],[],F0,0,61⟩)],[],[0,3,4,5],[0,3]⟩
def Fd(s: (Unit×Int×(Nat×Nat)×Int×Unit)×Unit×List Int×Unit):LA.R:=
 br (decide (s.1.2.2.2.1< ((s.1.2.2.1.2:Nat):Int))) (iteP (0<=s.1.2.2.2.1/\s.1.2.2.2.1< ((s.1.2.2.1.2:Nat):Int)) ((s.2.2.1[(s.1.2.2.1.1+s.1.2.2.2.1.toNat)]?).bind λx9=>iteP (0<=(acK .i64 (s.1.2.2.2.1-1))/\(acK .i64 (s.1.2.2.2.1-1))< ((s.1.2.2.1.2:Nat):Int)) ((s.2.2.1[(s.1.2.2.1.1+(acK .i64 (s.1.2.2.2.1-1)).toNat)]?).bind λx10=>br (!(x9==x10)) (iteP (0<=s.1.2.2.2.1/\s.1.2.2.2.1< ((s.1.2.2.1.2:Nat):Int)) ((s.2.2.1[(s.1.2.2.1.1+s.1.2.2.2.1.toNat)]?).bind λx11=>iteP (0<=s.1.2.1/\s.1.2.1< (s.2.2.1.length:Int)) ((s.2.2.1[s.1.2.1.toNat]?).bind λ_=>some (.inl (((),(acK .i64 (s.1.2.1+1)),s.1.2.2.1,(acK .i64 (s.1.2.2.2.1+1)),()),(()),(s.2.2.1.set s.1.2.1.toNat x11),()))) none) none) (some (.inl (((),s.1.2.1,s.1.2.2.1,(acK .i64 (s.1.2.2.2.1+1)),()),(()),s.2.2)))) none) none) (some (.inr (((),s.1.2.1,()),(()),s.2.2)))
def Lx:=mu Fd
def Pt[dp] :=F6 Tryz.f242 [0,0] LA Fd [] [] (by kernel_rfl) λs=>by simp only[Fd,tm];kernel_rfl
abbrev Lz:LX:=⟨⟨[ND,MH],[],F0,0,61⟩,[(.ret,⟨[ND,(2,.cl (.sub 0 (.i .i64)))],[],F0,0,61⟩),(.ext 0,⟨[ND,Ms],[],F0,0,61⟩)],[],[0,3],[0,2]⟩
def DI(s:RQ×Unit×List Int×Unit):Lz.R:=
 br (decide (s.1.2.1< (s.2.2.1.length:Int))) (iteP (0<=s.1.2.1/\s.1.2.1< (s.2.2.1.length:Int)) ((s.2.2.1[s.1.2.1.toNat]?).bind λx3=>iteP (0<=(acK .i64 (s.1.2.1-1))/\(acK .i64 (s.1.2.1-1))< (s.2.2.1.length:Int)) ((s.2.2.1[(acK .i64 (s.1.2.1-1)).toNat]?).bind λx4=>br (x3==x4) (iteP (0<=s.1.2.1/\s.1.2.1<=(s.2.2.1.length:Int)/\(s.2.2.1.length:Int)<=((s.2.2.1.length:Nat):Int)) ((Lx (((),s.1.2.1,((0+s.1.2.1.toNat),((s.2.2.1.length:Int).toNat-s.1.2.1.toNat)),1,()),(()),s.2.2)).bind λe16=>iteP (0<=e16.1.2.1/\e16.1.2.1<=(e16.2.2.1.length:Int)/\(e16.2.2.1.length:Int)<=((e16.2.2.1.length:Nat):Int)) (iteP ((0+e16.1.2.1.toNat)+((e16.2.2.1.length:Int).toNat-e16.1.2.1.toNat)<=e16.2.2.1.length) (iteP (0<=(0:Int)/\(0:Int)<=e16.1.2.1/\e16.1.2.1<=((e16.2.2.1.length:Nat):Int)) (some (.inr (.inl (((),((0+(0:Int).toNat),(e16.1.2.1.toNat-(0:Int).toNat)),()),(()),(e16.2.2.1.take (0+e16.1.2.1.toNat)++List.replicate ((e16.2.2.1.length:Int).toNat-e16.1.2.1.toNat) (0:Int)++e16.2.2.1.drop ((0+e16.1.2.1.toNat)+((e16.2.2.1.length:Int).toNat-e16.1.2.1.toNat))),())))) none) none) none) none) (some (.inl (((),(acK .i64 (s.1.2.1+1)),()),(()),s.2.2)))) none) none) (some (.inr (.inr (((),(),()),(()),s.2.2))))
def IR:=mu DI
def Ps[dp] :=F6 Tryz.f242 [0] Lz DI [] [Pt] (by kernel_rfl) λs=>by simp only[DI,tm];kernel_rfl
def Fc(a0:List Int):Option ((List Int)×Unit):=
 br (decide ((a0.length:Int)<2)) (some (a0,())) ((IR (((),1,()),(()),a0,())).bind λe17=>Sum.elim (λe17_0=>iteP (e17_0.1.2.1.1=0/\e17_0.1.2.1.2<=e17_0.2.2.1.length) (some ((e17_0.2.2.1.take e17_0.1.2.1.2),())) (iteP (e17_0.1.2.1.1+e17_0.1.2.1.2<=e17_0.2.2.1.length) (some (((e17_0.2.2.1.drop e17_0.1.2.1.1).take e17_0.1.2.1.2),())) none)) (λe17_1=>some e17_1.2.2) e17)
def Qz[dp] :=coM 242 Tryz.f242 (.i .i64) [] IT (λl _=>Fc l) [] [Ps] (by kernel_rfl) λl x=>by simp only[Fc,tm,-eq_self];kernel_rfl
def GI(a0:List Int):Option ((List Int)×Unit):=
 (FG a0).bind λy1=>(Gk y1.1).bind λy2=>iteP (y2.1.length=y1.1.length) ((Fc y2.1).bind λy3=>some (y3.1,())) none
def OG[dp] :=Dh 186 Tryz.f186 WF IT (λx=>GI x.1) [N3,SK,Qz] [] (by kernel_rfl) λx=>by simp only[GI,tm,-eq_self];kernel_rfl
def Fe(a0:Int)(a1:List Int):Option (Bool×Unit):=
 (EH a1 a0).bind λy1=>some (y1.1,())
def Lw[dp] :=Dh 187 Tryz.f187 [.ty (.i .i64),.pr (.ls (.i .i64))] [.b] (λx=>Fe x.1 x.2.1) [JD] [] (by kernel_rfl) λx=>by simp only[Fe,tm];kernel_rfl
abbrev FQ:LX:=⟨⟨[M2,(1,.fn 187 [.pro (.ls (.i .i64))]),M3,NC],[],[],0,19⟩,[(.ret,⟨[LP],[],[],0,19⟩),(.ext 0,⟨[MR],[],[],0,19⟩)],[],[0,1,7,8],[4]⟩
def Dc(s: (List Int×(List Int×Unit)×Int×Int×Unit)×Unit×Unit):FQ.R:=
 br (decide (s.1.2.2.2.1<s.1.2.2.1)) (iteP (0<=s.1.2.2.2.1) ((s.1.1[s.1.2.2.2.1.toNat]?).bind λx5=>(Fe x5 s.1.2.1.1).bind λy6=>br y6.1 (some (.inr (.inl (s.1.2.2.2,(()),(()))))) (some (.inl ((s.1.1,s.1.2.1,s.1.2.2.1,(acK .i64 (s.1.2.2.2.1+1)),()),(()),(()))))) none) (some (.inr (.inr (((),()),(()),(())))))
def EC:=mu Dc
def IQ[dp] :=F6 Tryz.f179 [0] FQ Dc [Lw] [] (by kernel_rfl) λs=>by simp only[Dc,tm];kernel_rfl
def D3(a0:List Int)(a1_0:List Int):Option (Int×Unit):=
 (EC ((a0,(a1_0,()),(a0.length:Int),0,()),(()),(()))).bind λe7=>Sum.elim (λe7_0=>some e7_0.1) (λ_=>some ((-1),())) e7
def Ja[dp] :=Dh 179 Tryz.f179 [.ty (.ls (.i .i64)),.fn 187 IT] Iv (λx=>D3 x.1 x.2.1.1) [] [IQ] (by kernel_rfl) λx=>by simp only[D3,tm];kernel_rfl
abbrev Fl:LX:=⟨⟨[ND,(1,.fn 187 [.pro (.ls (.i .i64))]),Mu,Mt],[],F0,0,42⟩,[(.ext 0,⟨[ND,Mu],[],F0,0,42⟩)],[],[0,1,5,6],[0,5]⟩
def C6(s: (Unit×(List Int×Unit)×Int×Int×Unit)×Unit×List Int×Unit):Fl.R:=
 br (decide (s.1.2.2.2.1< (s.2.2.1.length:Int))) (iteP (0<=s.1.2.2.2.1/\s.1.2.2.2.1< (s.2.2.1.length:Int)) ((s.2.2.1[s.1.2.2.2.1.toNat]?).bind λx6=>(Fe x6 s.1.2.1.1).bind λy7=>br (!y7.1) (iteP (0<=s.1.2.2.1/\s.1.2.2.1< (s.2.2.1.length:Int)) ((s.2.2.1[s.1.2.2.1.toNat]?).bind λ_=>some (.inl (((),s.1.2.1,(acK .i64 (s.1.2.2.1+1)),(acK .i64 (s.1.2.2.2.1+1)),()),(()),(s.2.2.1.set s.1.2.2.1.toNat x6),()))) none) (some (.inl (((),s.1.2.1,s.1.2.2.1,(acK .i64 (s.1.2.2.2.1+1)),()),(()),s.2.2)))) none) (some (.inr (((),s.1.2.2.1,()),(()),s.2.2)))
def Fk:=mu C6
def HP[dp] :=F6 Tryz.f77 [0] Fl C6 [Lw] [] (by kernel_rfl) λs=>by simp only[C6,tm];kernel_rfl
def Dq(a0:List Int)(a1_0:List Int):Option ((List Int)×Unit):=
 (D3 a0 a1_0).bind λy1=>br (y1.1==(-1)) (some (a0,())) ((Fk (((),(a1_0,()),y1.1,(acK .i64 (y1.1+1)),()),(()),a0,())).bind λe12=>iteP (0<=e12.1.2.1/\e12.1.2.1<=(e12.2.2.1.length:Int)/\(e12.2.2.1.length:Int)<=((e12.2.2.1.length:Nat):Int)) (iteP ((0+e12.1.2.1.toNat)+((e12.2.2.1.length:Int).toNat-e12.1.2.1.toNat)<=e12.2.2.1.length) (iteP (0<=(0:Int)/\(0:Int)<=e12.1.2.1/\e12.1.2.1<=((e12.2.2.1.length:Nat):Int)) (iteP ((0+(0:Int).toNat)=0/\(e12.1.2.1.toNat-(0:Int).toNat)<=(e12.2.2.1.take (0+e12.1.2.1.toNat)++List.replicate ((e12.2.2.1.length:Int).toNat-e12.1.2.1.toNat) (0:Int)++e12.2.2.1.drop ((0+e12.1.2.1.toNat)+((e12.2.2.1.length:Int).toNat-e12.1.2.1.toNat))).length) (some (((e12.2.2.1.take (0+e12.1.2.1.toNat)++List.replicate ((e12.2.2.1.length:Int).toNat-e12.1.2.1.toNat) (0:Int)++e12.2.2.1.drop ((0+e12.1.2.1.toNat)+((e12.2.2.1.length:Int).toNat-e12.1.2.1.toNat))).take (e12.1.2.1.toNat-(0:Int).toNat)),())) (iteP ((0+(0:Int).toNat)+(e12.1.2.1.toNat-(0:Int).toNat)<=(e12.2.2.1.take (0+e12.1.2.1.toNat)++List.replicate ((e12.2.2.1.length:Int).toNat-e12.1.2.1.toNat) (0:Int)++e12.2.2.1.drop ((0+e12.1.2.1.toNat)+((e12.2.2.1.length:Int).toNat-e12.1.2.1.toNat))).length) (some ((((e12.2.2.1.take (0+e12.1.2.1.toNat)++List.replicate ((e12.2.2.1.length:Int).toNat-e12.1.2.1.toNat) (0:Int)++e12.2.2.1.drop ((0+e12.1.2.1.toNat)+((e12.2.2.1.length:Int).toNat-e12.1.2.1.toNat))).drop (0+(0:Int).toNat)).take (e12.1.2.1.toNat-(0:Int).toNat)),())) none)) none) none) none)
def H5[dp] :=coM 77 Tryz.f77 (.i .i64) [.fn 187 IT] IT (λl x=>Dq l x.1.1) [Ja] [HP] (by kernel_rfl) λl x=>by simp only[Dq,tm,-eq_self];kernel_rfl
def E0(a0:List Int)(a1:List Int):Option ((List Int)×Unit):=
 (GI a0).bind λy1=>(Dq y1.1 a1).bind λy2=>some (y2.1,())
def KA[dp] :=Dh 83 Tryz.f83 UZ IT (λx=>E0 x.1 x.2.1) [OG,H5] [] (by kernel_rfl) λx=>by simp only[E0,tm];kernel_rfl
def Gu(a0:List Int)(a1:List Int):Option ((List Int)×Unit):=
 (E0 a0 a1).bind λy1=>(E0 a0 y1.1).bind λy2=>some (y2.1,())
def N9[dp] :=Dh 93 Tryz.f93 UZ IT (λx=>Gu x.1 x.2.1) [KA] [] (by kernel_rfl) λx=>by simp only[Gu,tm];kernel_rfl
def EU(a0:mD):Option (Bool×Unit):=
 (C0 a0.epoch 1 20).bind λy1=>br y1.1 ((Eh a0.replicas).bind λy2=>br y2.1 ((Eh a0.witnesses).bind λy3=>br y3.1 ((EH a0.replicas a0.primary).bind λy4=>br y4.1 ((Gu a0.replicas a0.witnesses).bind λy5=>some (((y5.1.length:Int)==0),())) (some (false,()))) (some (false,()))) (some (false,()))) (some (false,()))
def HL[dp] :=Dh 20 Tryz.f20 WG [.b] (λx=>EU x.1) [D9,LJ,JD,N9] [] (by kernel_rfl) λx=>by simp only[EU,tm];kernel_rfl
abbrev Oj:LX:=⟨⟨[J9,(6,.cl (.ro (.st .config))),M3,NC],[WH],[],0,30⟩,[(.ret,⟨[J9,NA],[WH],[],0,30⟩),(.ext 0,⟨[J9,Ms],[WH],[],0,30⟩)],[],[1,6,7,8],[1,2]⟩
def Gp(s: (Unit×List mD×Int×Int×Unit)×(abL×Unit)×Unit):Oj.R:=
 br (decide (s.1.2.2.2.1<s.1.2.2.1)) (iteP (0<=s.1.2.2.2.1) ((s.1.2.1[s.1.2.2.2.1.toNat]?).bind λx6=>(EU x6).bind λy7=>br (!y7.1) (some (.inr (.inl (((),false,()),s.2.1,(()))))) (br (!(x6.epoch==(acK .i64 (s.1.2.2.2.1+1)))) (some (.inr (.inl (((),false,()),s.2.1,(()))))) (some (.inl (((),s.1.2.1,s.1.2.2.1,(acK .i64 (s.1.2.2.2.1+1)),()),s.2.1,(())))))) none) (some (.inr (.inr (((),(),()),s.2.1,(())))))
def Lm:=mu Gp
def RS[dp] :=F6 Tryz.f154 [0] Oj Gp [HL] [] (by kernel_rfl) λs=>by simp only[Gp,tm];kernel_rfl
def F3(a0:jw):Option (Bool×Unit):=
 (Lm (((),a0.configs,(a0.configs.length:Int),0,()),((a0.configs,a0.activated,()),()),(()))).bind λe8=>Sum.elim (λe8_0=>some e8_0.1.2) (λe8_1=>(C0 e8_1.2.1.1.2.1 0 (e8_1.2.1.1.1.length:Int)).bind λy9=>some (y9.1,())) e8
def KT[dp] :=Dh 154 Tryz.f154 VJ [.b] (λx=>F3 x.1) [D9] [RS] (by kernel_rfl) λx=>by simp only[F3,tm];kernel_rfl
def FM(a0:s7):Option (Bool×Unit):=
 br ((a0.epoch==0)&&((a0.holder==0)&&((a0.ends==0)&&true))) (some (true,())) ((C0 a0.epoch 1 20).bind λy1=>br y1.1 ((C0 a0.holder 0 4).bind λy2=>br y2.1 ((C0 a0.ends 1 1049).bind λy3=>some (y3.1,())) (some (false,()))) (some (false,())))
def Pm[dp] :=Dh 155 Tryz.f155 Xc [.b] (λx=>FM x.1) [D9] [] (by kernel_rfl) λx=>by simp only[FM,tm];kernel_rfl
def JK(a0:tc):Option (Bool×Unit):=
 (C0 a0.rack 0 9).bind λy1=>br (!y1.1) (some (true,())) ((C0 a0.capacity 0 9).bind λy2=>br (!y2.1) (some (true,())) ((C0 a0.load 0 99).bind λy3=>some ((!y3.1),())))
def Sk[dp] :=Dh 236 Tryz.f236 [.ty (.st .place)] [.b] (λx=>JK x.1) [D9] [] (by kernel_rfl) λx=>by simp only[JK,tm];kernel_rfl
abbrev Gm:LX:=⟨⟨[OW,(1,.cl (.fc 236)),M3,NC],[],[],0,19⟩,[(.ret,⟨[LP],[],[],0,19⟩),(.ext 0,⟨[MR],[],[],0,19⟩)],[],[0,1,7,8],[4]⟩
def Dm(s: (List tc×Unit×Int×Int×Unit)×Unit×Unit):Gm.R:=
 br (decide (s.1.2.2.2.1<s.1.2.2.1)) (iteP (0<=s.1.2.2.2.1) ((s.1.1[s.1.2.2.2.1.toNat]?).bind λx4=>(JK x4).bind λy5=>br y5.1 (some (.inr (.inl (s.1.2.2.2,(()),(()))))) (some (.inl ((s.1.1,(),s.1.2.2.1,(acK .i64 (s.1.2.2.2.1+1)),()),(()),(()))))) none) (some (.inr (.inr (((),()),(()),(())))))
def EZ:=mu Dm
def Jw[dp] :=F6 Tryz.f261 [0] Gm Dm [Sk] [] (by kernel_rfl) λs=>by simp only[Dm,tm];kernel_rfl
def Ek(a0:List tc):Option (Int×Unit):=
 (EZ ((a0,(),(a0.length:Int),0,()),(()),(()))).bind λe6=>Sum.elim (λe6_0=>some e6_0.1) (λ_=>some ((-1),())) e6
def J4[dp] :=Dh 261 Tryz.f261 aaZ Iv (λx=>Ek x.1) [] [Jw] (by kernel_rfl) λx=>by simp only[Ek,tm];kernel_rfl
def DY(a0:List tc):Option (Bool×Unit):=
 (Ek a0).bind λy1=>some ((decide (y1.1≥0)),())
def I6[dp] :=Dh 235 Tryz.f235 aaZ [.b] (λx=>DY x.1) [J4] [] (by kernel_rfl) λx=>by simp only[DY,tm];kernel_rfl
def FI(a0:List tc):Option (Bool×Unit):=
 br ((a0.length:Int)==5) ((DY a0).bind λy1=>some ((!y1.1),())) (some (false,()))
def MN[dp] :=Dh 156 Tryz.f156 YU [.b] (λx=>FI x.1) [I6] [] (by kernel_rfl) λx=>by simp only[FI,tm];kernel_rfl
def JA(a0:Op):Option (Bool×Unit):=
 (C0 a0.client 0 2).bind λy1=>br (!y1.1) (some (false,())) ((C0 a0.seq 1 99).bind λy2=>br (!y2.1) (some (false,())) ((C0 a0.object 0 2).bind λy3=>br (!y3.1) (some (false,())) ((C0 a0.value 0 9).bind λy4=>br (!y4.1) (some (false,())) (br (a0.kind==1) (br (a0.old==0) (some (true,())) (br (a0.kind==2) ((C0 a0.old 0 9).bind λy5=>some (y5.1,())) (some (false,())))) (br (a0.kind==2) ((C0 a0.old 0 9).bind λy6=>some (y6.1,())) (some (false,())))))))
def Vm[dp] :=Dh 133 Tryz.f133 VI [.b] (λx=>JA x.1) [D9] [] (by kernel_rfl) λx=>by simp only[JA,tm];kernel_rfl
abbrev Uo:LX:=⟨⟨[Ly,(5,.cl (.ro (.st .entry))),Mt,M3],[],[],0,41⟩,[(.ret,⟨[Ly,NA],[],[],0,41⟩),(.ext 0,⟨[Ly,Ms],[],[],0,41⟩)],[],[0,5,6,7],[0,2]⟩
def LV(s:abk×Unit×Unit):Uo.R:=
 br (decide (s.1.2.2.2.1<s.1.2.2.1)) (iteP (0<=s.1.2.2.2.1) ((s.1.2.1[s.1.2.2.2.1.toNat]?).bind λx5=>(C0 x5.epoch 1 20).bind λy6=>br (!y6.1) (some (.inr (.inl ((s.1.1,false,()),(()),(()))))) (br (decide (s.1.2.2.2.1>0)) (iteP (0<=(acK .i64 (s.1.2.2.2.1-1))) ((s.1.1[(acK .i64 (s.1.2.2.2.1-1)).toNat]?).bind λx7=>br (decide (x5.epoch<x7.epoch)) (some (.inr (.inl ((s.1.1,false,()),(()),(()))))) ((JA x5.op).bind λy8=>br (!y8.1) (some (.inr (.inl ((s.1.1,false,()),(()),(()))))) (some (.inl ((s.1.1,s.1.2.1,s.1.2.2.1,(acK .i64 (s.1.2.2.2.1+1)),()),(()),(())))))) none) ((JA x5.op).bind λy9=>br (!y9.1) (some (.inr (.inl ((s.1.1,false,()),(()),(()))))) (some (.inl ((s.1.1,s.1.2.1,s.1.2.2.1,(acK .i64 (s.1.2.2.2.1+1)),()),(()),(()))))))) none) (some (.inr (.inr ((s.1.1,(),()),(()),(())))))
def QV:=mu LV
def X4[dp] :=F6 Tryz.f207 [0] Uo LV [D9,Vm] [] (by kernel_rfl) λs=>by simp only[LV,tm];kernel_rfl
def H3(a0:List pZ):Option (Bool×Unit):=
 (QV ((a0,a0,(a0.length:Int),0,()),(()),(()))).bind λe10=>Sum.elim (λe10_0=>some e10_0.1.2) (λe10_1=>some ((decide ((e10_1.1.1.length:Int)<=16)),())) e10
def Qq[dp] :=Dh 207 Tryz.f207 QD [.b] (λx=>H3 x.1) [] [X4] (by kernel_rfl) λx=>by simp only[H3,tm];kernel_rfl
abbrev Pb:LX:=⟨⟨[M2,PD,OX,Y2],[],[],0,26⟩,[(.ret,⟨[SQ],[],[],0,26⟩),(.ext 0,⟨[MR],[],[],0,26⟩)],[],[0,1,12,13],[4]⟩
def Gg(s:abj×Unit×Unit):Pb.R:=
 br (decide (s.1.2.2.2.1<s.1.2.2.1)) (iteP (0<=s.1.2.2.2.1) ((s.1.1[s.1.2.2.2.1.toNat]?).bind λx5=>iteP (0<=s.1.2.2.2.1) ((s.1.2.1[s.1.2.2.2.1.toNat]?).bind λx6=>br (!(x5==x6)) (some (.inr (.inl ((false,()),(()),(()))))) (some (.inl ((s.1.1,s.1.2.1,s.1.2.2.1,(acK .i64 (s.1.2.2.2.1+1)),()),(()),(()))))) none) none) (some (.inr (.inr (((),()),(()),(())))))
def Mq:=mu Gg
def Tl[dp] :=F6 Tryz.f63 [0] Pb Gg [] [] (by kernel_rfl) λs=>by simp only[Gg,tm];kernel_rfl
def HB(a0:List Int)(a1:List Int):Option (Bool×Unit):=
 br (!((a0.length:Int)==(a1.length:Int))) (some (false,())) ((Mq ((a0,a1,(a0.length:Int),0,()),(()),(()))).bind λe7=>Sum.elim (λe7_0=>some e7_0.1) (λ_=>some (true,())) e7)
def QA[dp] :=Dh 63 Tryz.f63 UZ [.b] (λx=>HB x.1 x.2.1) [] [Tl] (by kernel_rfl) λx=>by simp only[HB,tm];kernel_rfl
def Ha(a0:List Int)(a1:List Int):Option (Bool×Unit):=
 (HB a0 a1).bind λy1=>some (y1.1,())
def So[dp] :=Dh 91 Tryz.f91 UZ [.b] (λx=>Ha x.1 x.2.1) [QA] [] (by kernel_rfl) λx=>by simp only[Ha,tm];kernel_rfl
def Es(a0:mD)(a1:mD):Option (Bool×Unit):=
 br (a0.epoch==a1.epoch) (br (a0.primary==a1.primary) ((Ha a0.replicas a1.replicas).bind λy1=>br y1.1 ((Ha a0.witnesses a1.witnesses).bind λy2=>some (y2.1,())) (some (false,()))) (some (false,()))) (some (false,()))
def Hl[dp] :=Dh 19 Tryz.f19 aaE [.b] (λx=>Es x.1 x.2.1) [So] [] (by kernel_rfl) λx=>by simp only[Es,tm];kernel_rfl
def Ie(a0:List pZ):Option (Int×Unit):=
 br ((a0.length:Int)==0) (some (0,())) (iteP (0<=(acK .i64 ((a0.length:Int)-1))) ((a0[(acK .i64 ((a0.length:Int)-1)).toNat]?).bind λx1=>some (x1.epoch,())) none)
def OI[dp] :=Dh 158 Tryz.f158 QD Iv (λx=>Ie x.1) [] [] (by kernel_rfl) λx=>by simp only[Ie,tm];kernel_rfl
def JN(a0:mD)(a1:Int):Option (Int×Unit):=
 (EU a0).bind λy1=>br (!y1.1) (some (0,())) (br (a1==a0.primary) (some (1,())) ((EH a0.replicas a1).bind λy2=>br y2.1 (some (2,())) ((EH a0.witnesses a1).bind λy3=>br y3.1 (some (3,())) (some (0,())))))
def Sr[dp] :=Dh 97 Tryz.f97 aaF Iv (λx=>JN x.1 x.2.1) [HL,JD] [] (by kernel_rfl) λx=>by simp only[JN,tm];kernel_rfl
def L7(a0:Int)(a1:List pZ):Option (Bool×Unit):=
 (H3 a1).bind λy1=>br y1.1 (br (decide ((a1.length:Int)<=3)) ((C0 a0 0 (acK .i64 (16-(a1.length:Int)))).bind λy2=>br y2.1 (br (a0==0) (some (true,())) (some (((a1.length:Int)==3),()))) (some (false,()))) (some (false,()))) (some (false,()))
def Vp[dp] :=Dh 237 Tryz.f237 aaR [.b] (λx=>L7 x.1 x.2.1) [Qq,D9] [] (by kernel_rfl) λx=>by simp only[L7,tm];kernel_rfl
def Gv(a0:o4)(a1:Int):Option (Bool×Unit):=
 (C0 a0.version 1 2).bind λy1=>br (!y1.1) (some (false,())) ((C0 a0.epoch 0 20).bind λy2=>br (!y2.1) (some (false,())) ((H3 a0.log).bind λy3=>br (!y3.1) (some (false,())) ((H3 a0.learned).bind λy4=>br (!y4.1) (some (false,())) ((C0 a0.first 0 16).bind λy5=>br (!y5.1) (some (false,())) (br (decide ((acK .i64 (a0.first+(a0.log.length:Int)))>16)) (some (false,())) ((C0 a0.commit 0 (acK .i64 (a0.first+(a0.log.length:Int)))).bind λy6=>br (!y6.1) (some (false,())) ((Es a0.config (⟨0,0,([]:List Int),([]:List Int)⟩:mD)).bind λy7=>br y7.1 (br (a0.first==0) (br (a0.commit==0) (some (((a0.log.length:Int)==0),())) (some (false,()))) (some (false,()))) (br (!a0.intact) (some (false,())) (br (decide (a0.epoch<a0.config.epoch)) (some (false,())) ((Ie a0.log).bind λy8=>br (decide (y8.1>a0.config.epoch)) (some (false,())) ((JN a0.config a1).bind λy9=>br (y9.1==1) (some ((a0.first==0),())) (br (y9.1==2) (some ((a0.first==0),())) (br (y9.1==3) ((L7 a0.first a0.log).bind λy12=>some (y12.1,())) (some (false,())))))))))))))))
def Oa[dp] :=Dh 157 Tryz.f157 TU [.b] (λx=>Gv x.1 x.2.1) [D9,Qq,Hl,OI,Sr,Vp] [] (by kernel_rfl) λx=>by simp only[Gv,tm];kernel_rfl
def Ey(a0:mD):Option (mD×Unit):=
 iteP ((([]:List Int)++a0.replicas).length*8<=2 ^ 40) (iteP ((([]:List Int)++a0.witnesses).length*8<=2 ^ 40) (some ((⟨a0.epoch,a0.primary,(([]:List Int)++a0.replicas),(([]:List Int)++a0.witnesses)⟩:mD),())) none) none
def JZ[dp] :=Dh 208 Tryz.f208 WG aaa (λx=>Ey x.1) [] [] (by kernel_rfl) λx=>by simp only[Ey,tm];kernel_rfl
def Hw(a0:jw)(a1:Int):Option (mD×Bool×Unit):=
 (F3 a0).bind λy1=>br (!y1.1) (some ((⟨0,0,([]:List Int),([]:List Int)⟩:mD),false,())) ((C0 a1 1 (a0.configs.length:Int)).bind λy2=>br (!y2.1) (some ((⟨0,0,([]:List Int),([]:List Int)⟩:mD),false,())) (iteP (0<=(acK .i64 (a1-1))) ((a0.configs[(acK .i64 (a1-1)).toNat]?).bind λx3=>(Ey x3).bind λy4=>some (y4.1,true,())) none))
def PU[dp] :=Dh 159 Tryz.f159 Xd VQ (λx=>Hw x.1 x.2.1) [KT,D9,JZ] [] (by kernel_rfl) λx=>by simp only[Hw,tm];kernel_rfl
abbrev Mv:LX:=⟨⟨[J9,(57,.cl (.ro (.st .server))),(58,.cl (.int .i64)),(59,.cl (.int .i64))],[Jd],[],0,118⟩,[(.ret,⟨[NA],[],[],0,118⟩),(.ext 0,⟨[Ms],[],[],0,118⟩)],[],[1,57,58,59],[2]⟩
def Ft(s: (Unit×List o4×Int×Int×Unit)×(MI×Unit)×Unit):Mv.R:=
 br (decide (s.1.2.2.2.1<s.1.2.2.1)) (iteP (0<=s.1.2.2.2.1) ((s.1.2.1[s.1.2.2.2.1.toNat]?).bind λx20=>(Gv x20 s.1.2.2.2.1).bind λy21=>br (!y21.1) (some (.inr (.inl ((false,()),(()),(()))))) (br (decide (x20.epoch>(s.2.1.1.2.2.2.1.length:Int))) (some (.inr (.inl ((false,()),(()),(()))))) ((Ie x20.learned).bind λy22=>br (decide (y22.1>s.2.1.1.2.2.2.2.1)) (some (.inr (.inl ((false,()),(()),(()))))) ((Es x20.config (⟨0,0,([]:List Int),([]:List Int)⟩:mD)).bind λy23=>br y23.1 (some (.inl (((),s.1.2.1,s.1.2.2.1,(acK .i64 (s.1.2.2.2.1+1)),()),s.2.1,(())))) ((Hw (⟨s.2.1.1.2.2.2.1,s.2.1.1.2.2.2.2.1⟩:jw) x20.config.epoch).bind λy24=>br (!y24.2.1) (some (.inr (.inl ((false,()),(()),(()))))) ((Es y24.1 x20.config).bind λy25=>br (!y25.1) (some (.inr (.inl ((false,()),(()),(()))))) (br (decide (x20.config.epoch>s.2.1.1.2.2.2.2.1)) (some (.inr (.inl ((false,()),(()),(()))))) (some (.inl (((),s.1.2.1,s.1.2.2.1,(acK .i64 (s.1.2.2.2.1+1)),()),s.2.1,(()))))))))))) none) (some (.inr (.inr (((),()),(()),(())))))
def Jt:=mu Ft
def P4[dp] :=F6 Tryz.f49 [0] Mv Ft [Oa,OI,Hl,PU] [] (by kernel_rfl) λs=>by simp only[Ft,tm];kernel_rfl
def DL(a0:oZ):Option (Bool×Unit):=
 (C0 a0.now 0 999).bind λy1=>br (!y1.1) (some (false,())) (br (!((a0.servers.length:Int)==5)) (some (false,())) ((Jq a0.sides).bind λy2=>br (!y2.1) (some (false,())) ((F3 a0.master).bind λy3=>br (!y3.1) (some (false,())) ((FM a0.lease).bind λy4=>br (!y4.1) (some (false,())) ((FI a0.places).bind λy5=>br (!y5.1) (some (false,())) ((C0 a0.masterUp 0 3).bind λy6=>br (!y6.1) (some (false,())) (br (decide (a0.lease.epoch>a0.master.activated)) (some (false,())) ((Jt (((),a0.servers,(a0.servers.length:Int),0,()),((a0.now,a0.servers,a0.sides,a0.master.configs,a0.master.activated,a0.masterUp,a0.lease.epoch,a0.lease.holder,a0.lease.ends,a0.places,()),()),(()))).bind λe26=>Sum.elim (λe26_0=>some e26_0.1) (λ_=>some (true,())) e26))))))))
def E4[dp] :=Dh 49 Tryz.f49 QY [.b] (λx=>DL x.1) [D9,Sl,KT,Pm,MN] [P4] (by kernel_rfl) λx=>by simp only[DL,tm];kernel_rfl
def DW(a0:List pZ):Option ((List pZ)×Unit):=iteP (a0.length*56<=2 ^ 40) (some (a0,())) none
def Hm[dp] :=coC 203 Tryz.f203 (.st .entry) 56 DW (by kernel_rfl) (λ_=>rfl) λ_=>by kernel_rfl
def EV(a0:o4):Option (o4×Unit):=
 (Ey a0.config).bind λy1=>(DW a0.log).bind λy2=>(DW a0.learned).bind λy3=>some ((⟨a0.up,a0.intact,a0.version,a0.epoch,y1.1,a0.first,y2.1,a0.commit,y3.1⟩:o4),())
def NZ[dp] :=Dh 160 Tryz.f160 Ul Z9 (λx=>EV x.1) [JZ,Hm] [] (by kernel_rfl) λx=>by simp only[EV,tm];kernel_rfl
abbrev O4:LX:=⟨⟨[LQ,Rm,(10,.cl (.ro (.st .config))),SR,OX],[XZ,Xm],aac,0,25⟩,[(.ext 0,⟨[LQ,Rm],[XZ,Xm],aac,0,25⟩)],[.b 2 0 (.st .config)],[2,3,10,11,12],[2,3]⟩
def G6(s: (Unit×Unit×List mD×Int×Int×Unit)×(RQ×RQ×Unit)×List mD×Unit):O4.R:=
 br (decide (s.1.2.2.2.2.1<s.1.2.2.2.1)) (iteP (0<=s.1.2.2.2.2.1) ((s.1.2.2.1[s.1.2.2.2.2.1.toNat]?).bind λx14=>(Ey x14).bind λy15=>iteP ((s.2.2.1++([y15.1]:List mD)).length*64<=2 ^ 40) (some (.inl (((),(),s.1.2.2.1,s.1.2.2.2.1,(acK .i64 (s.1.2.2.2.2.1+1)),()),s.2.1,(s.2.2.1++([y15.1]:List mD)),()))) none) none) (some (.inr (((),(),()),s.2)))
def OT:=mu G6
def Tb[dp] :=F6 Tryz.f161 [0] O4 G6 [JZ] [] (by kernel_rfl) λs=>by simp only[G6,tm];kernel_rfl
def Hx(a0:jw):Option (jw×Unit):=
 (OT (((),(),a0.configs,(a0.configs.length:Int),0,()),(((),0,()),((),a0.activated,()),()),([]:List mD),())).bind λe16=>some ((⟨e16.2.2.1,e16.2.1.2.1.2.1⟩:jw),())
def NY[dp] :=Dh 161 Tryz.f161 VJ aab (λx=>Hx x.1) [] [Tb] (by kernel_rfl) λx=>by simp only[Hx,tm];kernel_rfl
def JY(a0:List tc):Option ((List tc)×Unit):=iteP (a0.length*24<=2 ^ 40) (some (a0,())) none
def SG[dp] :=coC 162 Tryz.f162 (.st .place) 24 JY (by kernel_rfl) (λ_=>rfl) λ_=>by kernel_rfl
abbrev Ol:LX:=⟨⟨[J9,NB,VK,(9,.cl (.ro (.st .server))),ST,SR],[Jd,Li,Xn],aad,0,36⟩,[(.ext 0,⟨[J9,NB,VK],[Jd,Li,Xn],aad,0,36⟩)],[.b 2 1 (.st .server)],[1,2,3,9,10,11],[1,2,3]⟩
def Gs(s: (Unit×Unit×Unit×List o4×Int×Int×Unit)×(MI×LR×aa9×Unit)×List o4×Unit):Ol.R:=
 br (decide (s.1.2.2.2.2.2.1<s.1.2.2.2.2.1)) (iteP (0<=s.1.2.2.2.2.2.1) ((s.1.2.2.2.1[s.1.2.2.2.2.2.1.toNat]?).bind λx60=>(EV x60).bind λy61=>iteP ((s.2.2.1++([y61.1]:List o4)).length*152<=2 ^ 40) (some (.inl (((),(),(),s.1.2.2.2.1,s.1.2.2.2.2.1,(acK .i64 (s.1.2.2.2.2.2.1+1)),()),s.2.1,(s.2.2.1++([y61.1]:List o4)),()))) none) none) (some (.inr (((),(),(),()),s.2)))
def Oh:=mu Gs
def RX[dp] :=F6 Tryz.f51 [0] Ol Gs [NZ] [] (by kernel_rfl) λs=>by simp only[Gs,tm];kernel_rfl
def De(a0:oZ):Option (oZ×Unit):=
 (Oh (((),(),(),a0.servers,(a0.servers.length:Int),0,()),((a0.now,a0.servers,a0.sides,a0.master.configs,a0.master.activated,a0.masterUp,a0.lease.epoch,a0.lease.holder,a0.lease.ends,a0.places,()),(0,(),(),(),0,0,0,0,0,(),()),(a0.now,(),a0.sides,a0.master.configs,a0.master.activated,a0.masterUp,a0.lease.epoch,a0.lease.holder,a0.lease.ends,a0.places,()),()),([]:List o4),())).bind λe62=>(FG e62.2.1.1.2.2.1).bind λy63=>(Hx (⟨e62.2.1.1.2.2.2.1,e62.2.1.1.2.2.2.2.1⟩:jw)).bind λy64=>(JY e62.2.1.1.2.2.2.2.2.2.2.2.2.1).bind λy65=>some ((⟨e62.2.1.2.2.1.1,e62.2.2.1,y63.1,y64.1,e62.2.1.2.2.1.2.2.2.2.2.1,(⟨e62.2.1.2.2.1.2.2.2.2.2.2.1,e62.2.1.2.2.1.2.2.2.2.2.2.2.1,e62.2.1.2.2.1.2.2.2.2.2.2.2.2.1⟩:s7),y65.1⟩:oZ),())
def HX[dp] :=Dh 51 Tryz.f51 QY RR (λx=>De x.1) [N3,NY,SG] [RX] (by kernel_rfl) λx=>by simp only[De,tm];kernel_rfl
def Dr(a0:jw):Option (mD×Bool×Unit):=
 (Hw a0 a0.activated).bind λy1=>some (y1.1,y1.2.1,())
def HM[dp] :=Dh 66 Tryz.f66 VJ VQ (λx=>Dr x.1) [PU] [] (by kernel_rfl) λx=>by simp only[Dr,tm];kernel_rfl
def Dk(a0:oZ)(a1:Int):Option (Bool×Unit):=
 (DL a0).bind λy1=>br y1.1 ((C0 a1 0 4).bind λy2=>some (y2.1,())) (some (false,()))
def I4[dp] :=Dh 132 Tryz.f132 Ki [.b] (λx=>Dk x.1 x.2.1) [E4,D9] [] (by kernel_rfl) λx=>by simp only[Dk,tm];kernel_rfl
def H9(a0:o4)(a1:Int):Option (Bool×Unit):=
 (Gv a0 a1).bind λy1=>br y1.1 (br a0.up ((JN a0.config a1).bind λy2=>br (y2.1==1) (some ((a0.epoch==a0.config.epoch),())) (some (false,()))) (some (false,()))) (some (false,()))
def Sq[dp] :=Dh 178 Tryz.f178 TU [.b] (λx=>H9 x.1 x.2.1) [Oa,Sr] [] (by kernel_rfl) λx=>by simp only[H9,tm];kernel_rfl
def Eb(a0:oZ)(a1:Int):Option (Bool×Unit):=
 (Dk a0 a1).bind λy1=>br y1.1 (iteP (0<=a1) ((a0.servers[a1.toNat]?).bind λx2=>(H9 x2 a1).bind λy3=>some (y3.1,())) none) (some (false,()))
def Pv[dp] :=Dh 67 Tryz.f67 Ki [.b] (λx=>Eb x.1 x.2.1) [I4,Sq] [] (by kernel_rfl) λx=>by simp only[Eb,tm];kernel_rfl
def Im(a1:Int):Option ((List Int)×Unit):=
 br (decide (a1<0)) (none) (br (decide ((acK .i64 (a1-(acK .i64 (0-0))))>0)) (iteP ((0:Int)=0/\(0:Int)=0) (iteP (0< (acK .i64 (a1-(acK .i64 (0-0))))/\(acK .i64 (a1-(acK .i64 (0-0))))*((8:Nat):Int)<=2 ^ 40) (iteP (0<=(0:Int)/\(0:Int)<=(0:Int)/\(0:Int)<=(((acK .i64 (a1-(acK .i64 (0-0)))).toNat:Nat):Int)) (iteP ((0+(0:Int).toNat)=0/\((0:Int).toNat-(0:Int).toNat)<=(List.replicate (acK .i64 (a1-(acK .i64 (0-0)))).toNat (0:Int)).length) (some (((List.replicate (acK .i64 (a1-(acK .i64 (0-0)))).toNat (0:Int)).take ((0:Int).toNat-(0:Int).toNat)),())) (iteP ((0+(0:Int).toNat)+((0:Int).toNat-(0:Int).toNat)<=(List.replicate (acK .i64 (a1-(acK .i64 (0-0)))).toNat (0:Int)).length) (some ((((List.replicate (acK .i64 (a1-(acK .i64 (0-0)))).toNat (0:Int)).drop (0+(0:Int).toNat)).take ((0:Int).toNat-(0:Int).toNat)),())) none)) none) none) none) (some (([]:List Int),())))
def SJ[dp] :=Dh 262 Tryz.f262 [.nl,.ty (.i .i64)] IT (λx=>Im x.2.1) [] [] (by kernel_rfl) λx=>by simp only[Im,tm,-eq_self];kernel_rfl
abbrev Ot:LX:=⟨⟨[(0,.cl (.ro (.ls (.i .i64)))),MH,(9,.cl (.ro (.ls (.i .i64)))),ST,SR],[],[],0,36⟩,[(.ext 0,⟨[(0,.cl (.ro (.ls (.i .i64)))),MH],[],[],0,36⟩)],[],[0,3,9,10,11],[0,3]⟩
def Gt(s: (List (List Int)×Int×List (List Int)×Int×Int×Unit)×Unit×Unit):Ot.R:=
 br (decide (s.1.2.2.2.2.1<s.1.2.2.2.1)) (iteP (0<=s.1.2.2.2.2.1) ((s.1.2.2.1[s.1.2.2.2.2.1.toNat]?).bind λx6=>br (decide ((acK .i64 (s.1.2.1+(x6.length:Int)))<0)) (none) (some (.inl ((s.1.1,(acK .i64 (s.1.2.1+(x6.length:Int))),s.1.2.2.1,s.1.2.2.2.1,(acK .i64 (s.1.2.2.2.2.1+1)),()),(()),(()))))) none) (some (.inr ((s.1.1,s.1.2.1,()),(()),(()))))
def Oi:=mu Gt
def R3[dp] :=F6 Tryz.f239 [0] Ot Gt [] [] (by kernel_rfl) λs=>by simp only[Gt,tm];kernel_rfl
abbrev NK:LX:=⟨⟨[Xe,(25,.cl (.ro (.ls (.i .i64)))),(26,.cl (.int .i64)),(27,.cl (.int .i64))],[],F0,0,36⟩,[(.ext 2,⟨[Xe],[],F0,0,36⟩)],[],[6,25,26,27],[6]⟩
def Gc(s: (Unit×List (List Int)×Int×Int×Unit)×Unit×List Int×Unit):NK.R:=
 br (decide (s.1.2.2.2.1<s.1.2.2.1)) (iteP (0<=s.1.2.2.2.1) ((s.1.2.1[s.1.2.2.2.1.toNat]?).bind λx13=>iteP ((s.2.2.1++x13).length*8<=2 ^ 40) (some (.inl (((),s.1.2.1,s.1.2.2.1,(acK .i64 (s.1.2.2.2.1+1)),()),(()),(s.2.2.1++x13),()))) none) none) (some (.inr (((),()),(()),s.2.2)))
def Nz:=mu Gc
def Q8[dp] :=F6 Tryz.f239 [1] NK Gc [] [] (by kernel_rfl) λs=>by simp only[Gc,tm];kernel_rfl
def I3(a0:List (List Int)):Option ((List Int)×Unit):=
 (Oi ((a0,0,a0,(a0.length:Int),0,()),(()),(()))).bind λe7=>(Im e7.1.2.1).bind λy8=>(Nz (((),e7.1.1,(e7.1.1.length:Int),0,()),(()),y8.1,())).bind λe14=>some e14.2.2
def TN[dp] :=Dh 239 Tryz.f239 [.ty (.ls (.ls (.i .i64)))] IT (λx=>I3 x.1) [SJ] [R3,Q8] (by kernel_rfl) λx=>by simp only[I3,tm];kernel_rfl
def Hb(a0:List Int)(a1:List Int):Option ((List Int)×Unit):=
 (I3 ([a0,a1]:List (List Int))).bind λy1=>(GI y1.1).bind λy2=>some (y2.1,())
def OF[dp] :=Dh 180 Tryz.f180 UZ IT (λx=>Hb x.1 x.2.1) [TN,OG] [] (by kernel_rfl) λx=>by simp only[Hb,tm];kernel_rfl
def Ib(a0:mD):Option ((List Int)×Unit):=
 (EU a0).bind λy1=>br (!y1.1) (some (([]:List Int),())) ((Hb a0.replicas a0.witnesses).bind λy2=>some (y2.1,()))
def OE[dp] :=Dh 69 Tryz.f69 WG IT (λx=>Ib x.1) [HL,OF] [] (by kernel_rfl) λx=>by simp only[Ib,tm];kernel_rfl
def GR(a0:List Int)(a1:Int)(a2:Int):Option (Bool×Unit):=
 (Jq a0).bind λy1=>br y1.1 ((C0 a1 0 4).bind λy2=>br y2.1 ((C0 a2 0 4).bind λy3=>br y3.1 (iteP (0<=a1) ((a0[a1.toNat]?).bind λx4=>iteP (0<=a2) ((a0[a2.toNat]?).bind λx5=>some ((x4==x5),())) none) none) (some (false,()))) (some (false,()))) (some (false,()))
def NX[dp] :=Dh 181 Tryz.f181 YV [.b] (λx=>GR x.1 x.2.1 x.2.2.1) [Sl,D9] [] (by kernel_rfl) λx=>by simp only[GR,tm];kernel_rfl
def Qj(a0:oZ)(a1:Int)(a2:Int):Option (Bool×Unit):=
 iteP (0<=a1) ((a0.servers[a1.toNat]?).bind λx1=>iteP (0<=a2) ((a0.servers[a2.toNat]?).bind λx2=>(GR a0.sides a1 a2).bind λy3=>br y3.1 (br x2.up (br (x2.epoch==x1.epoch) ((Es x2.config x1.config).bind λy4=>br y4.1 (some ((decide (x2.commit<=(x1.log.length:Int))),())) (some (false,()))) (some (false,()))) (some (false,()))) (some (false,()))) none) none
def Z1[dp] :=Dh 71 Tryz.f71 P1 [.b] (λx=>Qj x.1 x.2.1 x.2.2.1) [NX,Hl] [] (by kernel_rfl) λx=>by simp only[Qj,tm];kernel_rfl
def G1(a0:Int)(a1:oZ)(a2:mD):Option (Bool×Unit):=
 (Qj a1 a2.primary a0).bind λy1=>some ((!y1.1),())
def Pr[dp] :=Dh 70 Tryz.f70 aa0 [.b] (λx=>G1 x.1 x.2.1 x.2.2.1) [Z1] [] (by kernel_rfl) λx=>by simp only[G1,tm];kernel_rfl
abbrev FP:LX:=⟨⟨[M2,(1,.fn 70 Zi),M3,NC],[],[],0,19⟩,[(.ret,⟨[LP],[],[],0,19⟩),(.ext 0,⟨[MR],[],[],0,19⟩)],[],[0,1,7,8],[4]⟩
def Db(s: (List Int×Za×Int×Int×Unit)×Unit×Unit):FP.R:=
 br (decide (s.1.2.2.2.1<s.1.2.2.1)) (iteP (0<=s.1.2.2.2.1) ((s.1.1[s.1.2.2.2.1.toNat]?).bind λx6=>(G1 x6 s.1.2.1.1 s.1.2.1.2.1).bind λy7=>br y7.1 (some (.inr (.inl (s.1.2.2.2,(()),(()))))) (some (.inl ((s.1.1,s.1.2.1,s.1.2.2.1,(acK .i64 (s.1.2.2.2.1+1)),()),(()),(()))))) none) (some (.inr (.inr (((),()),(()),(())))))
def EB:=mu Db
def IP[dp] :=F6 Tryz.f179 [0] FP Db [Pr] [] (by kernel_rfl) λs=>by simp only[Db,tm];kernel_rfl
def D0(a0:List Int)(a1_0:oZ)(a1_1:mD):Option (Int×Unit):=
 (EB ((a0,(a1_0,a1_1,()),(a0.length:Int),0,()),(()),(()))).bind λe8=>Sum.elim (λe8_0=>some e8_0.1) (λ_=>some ((-1),())) e8
def I9[dp] :=Dh 179 Tryz.f179 [.ty (.ls (.i .i64)),.fn 70 Xl] Iv (λx=>D0 x.1 x.2.1.1 x.2.1.2.1) [] [IP] (by kernel_rfl) λx=>by simp only[D0,tm];kernel_rfl
def DQ(a0:List Int)(a1_0:oZ)(a1_1:mD):Option (Bool×Unit):=
 (D0 a0 a1_0 a1_1).bind λy1=>some ((decide (y1.1≥0)),())
def It[dp] :=Dh 68 Tryz.f68 [.ty (.ls (.i .i64)),.fn 70 Xl] [.b] (λx=>DQ x.1 x.2.1.1 x.2.1.2.1) [I9] [] (by kernel_rfl) λx=>by simp only[DQ,tm];kernel_rfl
def Ge(a0:oZ):Option (Int×Unit):=
 (Dr a0.master).bind λy1=>br (!y1.2.1) (some ((-1),())) ((Eb a0 y1.1.primary).bind λy2=>br (!y2.1) (some ((-1),())) (iteP (0<=y1.1.primary) ((a0.servers[y1.1.primary.toNat]?).bind λx3=>br (!(x3.config.epoch==y1.1.epoch)) (some ((-1),())) ((Ib y1.1).bind λy4=>(DQ y4.1 a0 y1.1).bind λy5=>br y5.1 (some ((-1),())) (some (y1.1.primary,())))) none))
def Nn[dp] :=Dh 14 Tryz.f14 QY Iv (λx=>Ge x.1) [HM,Pv,OE,It] [] (by kernel_rfl) λx=>by simp only[Ge,tm];kernel_rfl
def Ia(a0:oZ):Option (Bool×Unit):=
 (Ge a0).bind λy1=>some ((!(y1.1==(-1))),())
def Rb[dp] :=Dh 12 Tryz.f12 QY [.b] (λx=>Ia x.1) [Nn] [] (by kernel_rfl) λx=>by simp only[Ia,tm];kernel_rfl
def Ic(a0:oZ)(a1:Int):Option (Bool×Unit):=
 iteP (0<=a1) ((a0.servers[a1.toNat]?).bind λx1=>br x1.up (iteP (0<=a1) ((a0.sides[a1.toNat]?).bind λx2=>some ((x2==0),())) none) (some (false,()))) none
def PV[dp] :=Dh 76 Tryz.f76 Ki [.b] (λx=>Ic x.1 x.2.1) [] [] (by kernel_rfl) λx=>by simp only[Ic,tm];kernel_rfl
def HG(a0:Int)(_a1:o4)(a2:oZ):Option (Bool×Unit):=
 (Ic a2 a0).bind λy1=>some (y1.1,())
def RF[dp] :=Dh 75 Tryz.f75 [.ty (.i .i64),.ty (.st .server),.pr (.st .cluster)] [.b] (λx=>HG x.1 x.2.1 x.2.2.1) [PV] [] (by kernel_rfl) λx=>by simp only[HG,tm];kernel_rfl
abbrev GX:LX:=⟨⟨[(1,.fn 75 Zj),N5,(14,.cl (.ro (.st .server))),(15,.cl (.int .i64)),Y3],[],F0,0,31⟩,[(.ext 0,⟨[N5],[],F0,0,31⟩)],[],[1,5,14,15,16],[5]⟩
def C3(s: (Zb×Unit×List o4×Int×Int×Unit)×Unit×List Int×Unit):GX.R:=
 br (decide (s.1.2.2.2.2.1<s.1.2.2.2.1)) (iteP (0<=s.1.2.2.2.2.1) ((s.1.2.2.1[s.1.2.2.2.2.1.toNat]?).bind λx7=>(HG s.1.2.2.2.2.1 x7 s.1.1.1).bind λy8=>br y8.1 (iteP ((s.2.2.1++([s.1.2.2.2.2.1]:List Int)).length*8<=2 ^ 40) (some (.inl ((s.1.1,(),s.1.2.2.1,s.1.2.2.2.1,(acK .i64 (s.1.2.2.2.2.1+1)),()),(()),(s.2.2.1++([s.1.2.2.2.2.1]:List Int)),()))) none) (some (.inl ((s.1.1,(),s.1.2.2.1,s.1.2.2.2.1,(acK .i64 (s.1.2.2.2.2.1+1)),()),(()),s.2.2)))) none) (some (.inr (((),()),(()),s.2.2)))
def Fo:=mu C3
def Kj[dp] :=F6 Tryz.f74 [0] GX C3 [RF] [] (by kernel_rfl) λs=>by simp only[C3,tm];kernel_rfl
def Ds(a0:oZ)(a1_0:oZ):Option ((List Int)×Unit):=
 (DL a0).bind λy1=>br (!y1.1) (some (([]:List Int),())) ((Fo (((a1_0,()),(),a0.servers,(a0.servers.length:Int),0,()),(()),([]:List Int),())).bind λe10=>some e10.2.2)
def Lb[dp] :=Dh 74 Tryz.f74 [.ty (.st .cluster),.fn 75 RR] IT (λx=>Ds x.1 x.2.1.1) [E4] [Kj] (by kernel_rfl) λx=>by simp only[Ds,tm];kernel_rfl
def Fh(a0:Int)(a1:oZ)(a2:mD):Option (Bool×Unit):=
 (Ic a1 a0).bind λy1=>br (!y1.1) (some (true,())) (iteP (0<=a0) ((a1.servers[a0.toNat]?).bind λx2=>some ((!(x2.config.epoch==a2.epoch)),())) none)
def Ob[dp] :=Dh 79 Tryz.f79 aa0 [.b] (λx=>Fh x.1 x.2.1 x.2.2.1) [PV] [] (by kernel_rfl) λx=>by simp only[Fh,tm];kernel_rfl
abbrev Gn:LX:=⟨⟨[M2,(1,.fn 79 Zi),M3,NC],[],[],0,19⟩,[(.ret,⟨[LP],[],[],0,19⟩),(.ext 0,⟨[MR],[],[],0,19⟩)],[],[0,1,7,8],[4]⟩
def DJ(s: (List Int×Za×Int×Int×Unit)×Unit×Unit):Gn.R:=
 br (decide (s.1.2.2.2.1<s.1.2.2.1)) (iteP (0<=s.1.2.2.2.1) ((s.1.1[s.1.2.2.2.1.toNat]?).bind λx6=>(Fh x6 s.1.2.1.1 s.1.2.1.2.1).bind λy7=>br y7.1 (some (.inr (.inl (s.1.2.2.2,(()),(()))))) (some (.inl ((s.1.1,s.1.2.1,s.1.2.2.1,(acK .i64 (s.1.2.2.2.1+1)),()),(()),(()))))) none) (some (.inr (.inr (((),()),(()),(())))))
def JF:=mu DJ
def JG[dp] :=F6 Tryz.f179 [0] Gn DJ [Ob] [] (by kernel_rfl) λs=>by simp only[DJ,tm];kernel_rfl
def Fn(a0:List Int)(a1_0:oZ)(a1_1:mD):Option (Int×Unit):=
 (JF ((a0,(a1_0,a1_1,()),(a0.length:Int),0,()),(()),(()))).bind λe8=>Sum.elim (λe8_0=>some e8_0.1) (λ_=>some ((-1),())) e8
def Kh[dp] :=Dh 179 Tryz.f179 [.ty (.ls (.i .i64)),.fn 79 Xl] Iv (λx=>Fn x.1 x.2.1.1 x.2.1.2.1) [] [JG] (by kernel_rfl) λx=>by simp only[Fn,tm];kernel_rfl
abbrev FN:LX:=⟨⟨[ND,(1,.fn 79 Zi),Mu,Mt],[],F0,0,42⟩,[(.ext 0,⟨[ND,Mu],[],F0,0,42⟩)],[],[0,1,5,6],[0,5]⟩
def Du(s: (Unit×Za×Int×Int×Unit)×Unit×List Int×Unit):FN.R:=
 br (decide (s.1.2.2.2.1< (s.2.2.1.length:Int))) (iteP (0<=s.1.2.2.2.1/\s.1.2.2.2.1< (s.2.2.1.length:Int)) ((s.2.2.1[s.1.2.2.2.1.toNat]?).bind λx7=>(Fh x7 s.1.2.1.1 s.1.2.1.2.1).bind λy8=>br (!y8.1) (iteP (0<=s.1.2.2.1/\s.1.2.2.1< (s.2.2.1.length:Int)) ((s.2.2.1[s.1.2.2.1.toNat]?).bind λ_=>some (.inl (((),s.1.2.1,(acK .i64 (s.1.2.2.1+1)),(acK .i64 (s.1.2.2.2.1+1)),()),(()),(s.2.2.1.set s.1.2.2.1.toNat x7),()))) none) (some (.inl (((),s.1.2.1,s.1.2.2.1,(acK .i64 (s.1.2.2.2.1+1)),()),(()),s.2.2)))) none) (some (.inr (((),s.1.2.2.1,()),(()),s.2.2)))
def IK:=mu Du
def IL[dp] :=F6 Tryz.f77 [0] FN Du [Ob] [] (by kernel_rfl) λs=>by simp only[Du,tm];kernel_rfl
def C8(a0:List Int)(a1_0:oZ)(a1_1:mD):Option ((List Int)×Unit):=
 (Fn a0 a1_0 a1_1).bind λy1=>br (y1.1==(-1)) (some (a0,())) ((IK (((),(a1_0,a1_1,()),y1.1,(acK .i64 (y1.1+1)),()),(()),a0,())).bind λe13=>iteP (0<=e13.1.2.1/\e13.1.2.1<=(e13.2.2.1.length:Int)/\(e13.2.2.1.length:Int)<=((e13.2.2.1.length:Nat):Int)) (iteP ((0+e13.1.2.1.toNat)+((e13.2.2.1.length:Int).toNat-e13.1.2.1.toNat)<=e13.2.2.1.length) (iteP (0<=(0:Int)/\(0:Int)<=e13.1.2.1/\e13.1.2.1<=((e13.2.2.1.length:Nat):Int)) (iteP ((0+(0:Int).toNat)=0/\(e13.1.2.1.toNat-(0:Int).toNat)<=(e13.2.2.1.take (0+e13.1.2.1.toNat)++List.replicate ((e13.2.2.1.length:Int).toNat-e13.1.2.1.toNat) (0:Int)++e13.2.2.1.drop ((0+e13.1.2.1.toNat)+((e13.2.2.1.length:Int).toNat-e13.1.2.1.toNat))).length) (some (((e13.2.2.1.take (0+e13.1.2.1.toNat)++List.replicate ((e13.2.2.1.length:Int).toNat-e13.1.2.1.toNat) (0:Int)++e13.2.2.1.drop ((0+e13.1.2.1.toNat)+((e13.2.2.1.length:Int).toNat-e13.1.2.1.toNat))).take (e13.1.2.1.toNat-(0:Int).toNat)),())) (iteP ((0+(0:Int).toNat)+(e13.1.2.1.toNat-(0:Int).toNat)<=(e13.2.2.1.take (0+e13.1.2.1.toNat)++List.replicate ((e13.2.2.1.length:Int).toNat-e13.1.2.1.toNat) (0:Int)++e13.2.2.1.drop ((0+e13.1.2.1.toNat)+((e13.2.2.1.length:Int).toNat-e13.1.2.1.toNat))).length) (some ((((e13.2.2.1.take (0+e13.1.2.1.toNat)++List.replicate ((e13.2.2.1.length:Int).toNat-e13.1.2.1.toNat) (0:Int)++e13.2.2.1.drop ((0+e13.1.2.1.toNat)+((e13.2.2.1.length:Int).toNat-e13.1.2.1.toNat))).drop (0+(0:Int).toNat)).take (e13.1.2.1.toNat-(0:Int).toNat)),())) none)) none) none) none)
def I7[dp] :=coM 77 Tryz.f77 (.i .i64) [.fn 79 Xl] IT (λl x=>C8 l x.1.1 x.1.2.1) [Kh] [IL] (by kernel_rfl) λl x=>by simp only[C8,tm,-eq_self];kernel_rfl
abbrev O3:LX:=⟨⟨[(1,.cl (.own 0 (.i .i64))),LP],[],F0,0,13⟩,[(.ext 0,⟨[(1,.cl (.own 0 (.i .i64)))],[],F0,0,13⟩)],[],[1,4],[1]⟩
def L4(s:RQ×Unit×List Int×Unit):O3.R:=
 br (decide (s.1.2.1<5)) (iteP ((s.2.2.1++([s.1.2.1]:List Int)).length*8<=2 ^ 40) (some (.inl (((),(acK .i64 (s.1.2.1+1)),()),(()),(s.2.2.1++([s.1.2.1]:List Int)),()))) none) (some (.inr (((),()),(()),s.2.2)))
def OS:=mu L4
def Ta[dp] :=F6 Tryz.f84 [0] O3 L4 [] [] (by kernel_rfl) λs=>by simp only[L4,tm];kernel_rfl
def IH:Option ((List Int)×Unit):=
 (OS (((),0,()),(()),([]:List Int),())).bind λe3=>some e3.2.2
def Qs[dp] :=Dh 84 Tryz.f84 [] IT (λ_=>IH) [] [Ta] (by kernel_rfl) λx=>by simp only[IH,tm];kernel_rfl
abbrev Rt:LX:=⟨⟨[OW,N5,(18,.cl (.ro (.i .i64))),(19,.cl (.int .i64)),(20,.cl (.int .i64))],[],F0,0,35⟩,[(.ext 0,⟨[N5],[],F0,0,35⟩)],[],[0,5,18,19,20],[5]⟩
def Jx(s: (List tc×Unit×List Int×Int×Int×Unit)×Unit×List Int×Unit):Rt.R:=
 br (decide (s.1.2.2.2.2.1<s.1.2.2.2.1)) (iteP (0<=s.1.2.2.2.2.1) ((s.1.2.2.1[s.1.2.2.2.2.1.toNat]?).bind λx8=>iteP (0<=x8) ((s.1.1[x8.toNat]?).bind λx9=>iteP ((s.2.2.1++([x9.rack]:List Int)).length*8<=2 ^ 40) (some (.inl ((s.1.1,(),s.1.2.2.1,s.1.2.2.2.1,(acK .i64 (s.1.2.2.2.2.1+1)),()),(()),(s.2.2.1++([x9.rack]:List Int)),()))) none) none) none) (some (.inr (((),()),(()),s.2.2)))
def Ri:=mu Jx
def VX[dp] :=F6 Tryz.f184 [0] Rt Jx [] [] (by kernel_rfl) λs=>by simp only[Jx,tm];kernel_rfl
def Nf(a0:List tc)(a1:List Int):Option ((List Int)×Unit):=
 (FI a0).bind λy1=>br (!y1.1) (some (([]:List Int),())) ((Eh a1).bind λy2=>br (!y2.1) (some (([]:List Int),())) ((Ri ((a0,(),a1,(a1.length:Int),0,()),(()),([]:List Int),())).bind λe10=>(GI e10.2.2.1).bind λy11=>some (y11.1,())))
def XN[dp] :=Dh 184 Tryz.f184 aaL IT (λx=>Nf x.1 x.2.1) [MN,LJ,OG] [VX] (by kernel_rfl) λx=>by simp only[Nf,tm];kernel_rfl
def Nd(a0:List tc)(a1:Int):Option (Bool×Unit):=
 (FI a0).bind λy1=>br y1.1 ((C0 a1 0 4).bind λy2=>br y2.1 (iteP (0<=a1) ((a0[a1.toNat]?).bind λx3=>iteP (0<=a1) ((a0[a1.toNat]?).bind λx4=>some ((decide (x3.load<x4.capacity)),())) none) none) (some (false,()))) (some (false,()))
def XM[dp] :=Dh 185 Tryz.f185 aaM [.b] (λx=>Nd x.1 x.2.1) [MN,D9] [] (by kernel_rfl) λx=>by simp only[Nd,tm];kernel_rfl
abbrev M5:LX:=⟨⟨[OW,PD,(2,.cl (.ro (.i .i64))),M3,VN,(19,.cl (.int .i64))],[],F0,0,79⟩,[(.ext 0,⟨[M3],[],[],0,79⟩)],[],[0,1,2,7,8,19],[7]⟩
def HS(s:abg×Unit×List Int×Unit):M5.R:=
 br (decide (s.1.2.2.2.2.2.1<5)) ((Nd s.1.1 s.1.2.2.2.2.2.1).bind λy9=>let j21 (p20:Int):M5.R:=some (.inl ((s.1.1,s.1.2.1,s.1.2.2.1,p20,(),(acK .i64 (s.1.2.2.2.2.2.1+1)),()),(()),s.2.2));br (!y9.1) (j21 s.1.2.2.2.1) ((EH s.1.2.1 s.1.2.2.2.2.2.1).bind λy10=>br y10.1 (j21 s.1.2.2.2.1) ((EH s.1.2.2.1 s.1.2.2.2.2.2.1).bind λy11=>br y11.1 (j21 s.1.2.2.2.1) (br (decide (s.1.2.2.2.1<0)) (j21 s.1.2.2.2.2.2.1) (iteP (0<=s.1.2.2.2.1) ((s.1.1[s.1.2.2.2.1.toNat]?).bind λx12=>(EH s.2.2.1 x12.rack).bind λy13=>iteP (0<=s.1.2.2.2.2.2.1) ((s.1.1[s.1.2.2.2.2.2.1.toNat]?).bind λx14=>(EH s.2.2.1 x14.rack).bind λy15=>br y13.1 (br (!y15.1) (j21 s.1.2.2.2.2.2.1) (br (y13.1==y15.1) (iteP (0<=s.1.2.2.2.2.2.1) ((s.1.1[s.1.2.2.2.2.2.1.toNat]?).bind λx16=>iteP (0<=s.1.2.2.2.1) ((s.1.1[s.1.2.2.2.1.toNat]?).bind λx17=>br (decide (x16.load<x17.load)) (j21 s.1.2.2.2.2.2.1) (j21 s.1.2.2.2.1)) none) none) (j21 s.1.2.2.2.1))) (br (y13.1==y15.1) (iteP (0<=s.1.2.2.2.2.2.1) ((s.1.1[s.1.2.2.2.2.2.1.toNat]?).bind λx18=>iteP (0<=s.1.2.2.2.1) ((s.1.1[s.1.2.2.2.1.toNat]?).bind λx19=>br (decide (x18.load<x19.load)) (j21 s.1.2.2.2.2.2.1) (j21 s.1.2.2.2.1)) none) none) (j21 s.1.2.2.2.1))) none) none))))) (some (.inr ((s.1.2.2.2.1,()),(()),(()))))
def PA:=mu HS
def TZ[dp] :=F6 Tryz.f82 [0] M5 HS [XM,JD] [] (by kernel_rfl) λs=>by simp only[HS,tm];kernel_rfl
def JB(a0:List tc)(a1:List Int)(a2:List Int):Option (Int×Unit):=
 (Eh a1).bind λy1=>br (!y1.1) (some ((-1),())) ((Nf a0 a1).bind λy2=>(PA ((a0,a1,a2,(-1),(),0,()),(()),y2.1,())).bind λe22=>some e22.1)
def Rc[dp] :=Dh 82 Tryz.f82 aaN Iv (λx=>JB x.1 x.2.1 x.2.2.1) [LJ,XN] [TZ] (by kernel_rfl) λx=>by simp only[JB,tm];kernel_rfl
abbrev Ok:LX:=⟨⟨[OW,MH,VO,aa5],[],aaf,0,52⟩,[(.ext 0,⟨[VO],[],F0,0,52⟩)],[],[0,3,9,10],[9]⟩
def FS(s:abh×Unit×List Int×List Int×Unit):Ok.R:=
 br (decide ((s.2.2.1.length:Int)<s.1.2.1)) ((JB s.1.1 s.2.2.1 s.2.2.2.1).bind λy12=>br (decide (y12.1<0)) (some (.inr (((),()),(()),s.2.2.1,()))) ((Hb s.2.2.1 ([y12.1]:List Int)).bind λy13=>some (.inl (s.1,(()),y13.1,s.2.2.2)))) (some (.inr (((),()),(()),s.2.2.1,())))
def Jn:=mu FS
def RT[dp] :=F6 Tryz.f80 [0] Ok FS [Rc,OF] [] (by kernel_rfl) λs=>by simp only[FS,tm];kernel_rfl
def IW(a0:List tc)(a1:List Int)(a2:List Int)(a3:Int):Option ((List Int)×Unit):=
 (FI a0).bind λy1=>br (!y1.1) (some (([]:List Int),())) ((Eh a1).bind λy2=>br (!y2.1) (some (([]:List Int),())) ((Eh a2).bind λy3=>br (!y3.1) (some (([]:List Int),())) ((C0 a3 0 5).bind λy4=>br (!y4.1) (some (([]:List Int),())) ((Gu a1 a2).bind λy5=>(IH).bind λy6=>(E0 y6.1 a2).bind λy7=>(Jn ((a0,a3,(),(),()),(()),y5.1,y7.1,())).bind λe14=>some e14.2.2))))
def TC[dp] :=Dh 80 Tryz.f80 aaO IT (λx=>IW x.1 x.2.1 x.2.2.1 x.2.2.2.1) [MN,LJ,D9,N9,Qs,KA] [RT] (by kernel_rfl) λx=>by simp only[IW,tm];kernel_rfl
def GG(a0:oZ)(a1:Int)(a2:Int):Option (mD×Bool×Unit):=
 (DL a0).bind λy1=>br (!y1.1) (some ((⟨0,0,([]:List Int),([]:List Int)⟩:mD),false,())) ((C0 a1 1 3).bind λy2=>br (!y2.1) (some ((⟨0,0,([]:List Int),([]:List Int)⟩:mD),false,())) ((C0 a2 0 1).bind λy3=>br (!y3.1) (some ((⟨0,0,([]:List Int),([]:List Int)⟩:mD),false,())) (br (decide ((a0.master.configs.length:Int)≥20)) (some ((⟨0,0,([]:List Int),([]:List Int)⟩:mD),false,())) ((Ds a0 a0).bind λy4=>(Dr a0.master).bind λy5=>(FG y5.1.replicas).bind λy6=>(C8 y6.1 a0 y5.1).bind λy7=>(IW a0.places y7.1 y4.1 a1).bind λy8=>br ((y8.1.length:Int)==0) (some ((⟨0,0,([]:List Int),([]:List Int)⟩:mD),false,())) (iteP (0<=(0:Int)/\(0:Int)< (y8.1.length:Int)) ((y8.1[(0:Int).toNat]?).bind λx9=>let j15 (p11:Int):Option (mD×Bool×Unit):=(IH).bind λy12=>(E0 y12.1 y4.1).bind λy13=>(JB a0.places y8.1 y13.1).bind λy14=>br (a2==1) (br (decide (y14.1≥0)) (some ((⟨(acK .i64 ((a0.master.configs.length:Int)+1)),p11,y8.1,([y14.1]:List Int)⟩:mD),true,())) (some ((⟨(acK .i64 ((a0.master.configs.length:Int)+1)),p11,y8.1,([]:List Int)⟩:mD),true,()))) (some ((⟨(acK .i64 ((a0.master.configs.length:Int)+1)),p11,y8.1,([]:List Int)⟩:mD),true,()));br (decide (y5.1.epoch>0)) ((EH y8.1 y5.1.primary).bind λy10=>br y10.1 (j15 y5.1.primary) (j15 x9)) (j15 x9)) none)))))
def Qr[dp] :=Dh 17 Tryz.f17 P1 VQ (λx=>GG x.1 x.2.1 x.2.2.1) [E4,D9,Lb,HM,N3,I7,TC,JD,Qs,KA,Rc] [] (by kernel_rfl) λx=>by simp only[GG,tm];kernel_rfl
def F4(a0:oZ):Option (Bool×Unit):=
 some ((decide ((acK .i64 (2*a0.masterUp))>3)),())
def MW[dp] :=Dh 98 Tryz.f98 QY [.b] (λx=>F4 x.1) [] [] (by kernel_rfl) λx=>by simp only[F4,tm];kernel_rfl
def HH(a0:jw)(a1:mD):Option (jw×Bool×Unit):=
 (Hx a0).bind λy1=>(F3 a0).bind λy2=>br (!y2.1) (some (y1.1,false,())) ((EU a1).bind λy3=>br (!y3.1) (some (y1.1,false,())) (br (!(a1.epoch==(acK .i64 ((a0.configs.length:Int)+1)))) (some (y1.1,false,())) ((Ey a1).bind λy4=>iteP ((y1.1.configs++([y4.1]:List mD)).length*64<=2 ^ 40) (some ((⟨(y1.1.configs++([y4.1]:List mD)),y1.1.activated⟩:jw),true,())) none)))
def RG[dp] :=Dh 123 Tryz.f123 aaP Xj (λx=>HH x.1 x.2.1) [NY,KT,HL,JZ] [] (by kernel_rfl) λx=>by simp only[HH,tm];kernel_rfl
def IX(a0:oZ)(a1:mD):Option (oZ×Int×Unit):=
 (De a0).bind λy1=>(DL a0).bind λy2=>br (!y2.1) (some (y1.1,1,())) ((F4 a0).bind λy3=>br (!y3.1) (some (y1.1,8,())) ((HH a0.master a1).bind λy4=>br (!y4.2.1) (some (y1.1,1,())) (some ((⟨y1.1.now,y1.1.servers,y1.1.sides,y4.1,y1.1.masterUp,y1.1.lease,y1.1.places⟩:oZ),0,()))))
def TD[dp] :=Dh 36 Tryz.f36 aaQ M4 (λx=>IX x.1 x.2.1) [HX,E4,MW,RG] [] (by kernel_rfl) λx=>by simp only[IX,tm];kernel_rfl
def Jr(a0:s7):Option (Int×Unit):=
 br ((a0.epoch==0)&&((a0.holder==0)&&((a0.ends==0)&&true))) (some (0,())) ((FM a0).bind λy1=>br (!y1.1) (some (0,())) (some ((acK .i64 (a0.ends+3)),())))
def Ss[dp] :=Dh 53 Tryz.f53 Xc Iv (λx=>Jr x.1) [Pm] [] (by kernel_rfl) λx=>by simp only[Jr,tm];kernel_rfl
def L6(a0:oZ)(a1:Int):Option (oZ×Int×Unit):=
 (De a0).bind λy1=>(DL a0).bind λy2=>br (!y2.1) (some (y1.1,1,())) ((C0 a1 0 (acK .i64 (999-a0.now))).bind λy3=>br (!y3.1) (some (y1.1,1,())) (some ((⟨(acK .i64 (y1.1.now+a1)),y1.1.servers,y1.1.sides,y1.1.master,y1.1.masterUp,y1.1.lease,y1.1.places⟩:oZ),0,())))
def Wm[dp] :=Dh 52 Tryz.f52 Ki M4 (λx=>L6 x.1 x.2.1) [HX,E4,D9] [] (by kernel_rfl) λx=>by simp only[L6,tm];kernel_rfl
def JM(a0:jw):Option (mD×Bool×Unit):=
 (Hw a0 (a0.configs.length:Int)).bind λy1=>some (y1.1,y1.2.1,())
def Uz[dp] :=Dh 106 Tryz.f106 VJ VQ (λx=>JM x.1) [PU] [] (by kernel_rfl) λx=>by simp only[JM,tm];kernel_rfl
def Fz(a0:s7)(a1:Int):Option (Bool×Unit):=
 (FM a0).bind λy1=>br y1.1 ((C0 a1 0 999).bind λy2=>br y2.1 ((Jr a0).bind λy3=>some ((decide (a1≥y3.1)),())) (some (false,()))) (some (false,()))
def Pu[dp] :=Dh 107 Tryz.f107 aaJ [.b] (λx=>Fz x.1 x.2.1) [Pm,D9,Ss] [] (by kernel_rfl) λx=>by simp only[Fz,tm];kernel_rfl
def JO(a0:o4)(a1:Int):Option (o4×Bool×Unit):=
 (EV a0).bind λy1=>(C0 a1 1 20).bind λy2=>br (!y2.1) (some (y1.1,false,())) (br (decide (a0.epoch<0)) (some (y1.1,false,())) (br (decide (a1<=a0.epoch)) (some (y1.1,false,())) (some ((⟨y1.1.up,y1.1.intact,y1.1.version,a1,y1.1.config,y1.1.first,y1.1.log,y1.1.commit,y1.1.learned⟩:o4),true,()))))
def UB[dp] :=Dh 201 Tryz.f201 TU Xk (λx=>JO x.1 x.2.1) [NZ,D9] [] (by kernel_rfl) λx=>by simp only[JO,tm];kernel_rfl
abbrev Lp:LX:=⟨⟨[Ka,PE,Rp,OY,(7,.cl (.ptr 2 0)),(38,.cl (.own 0 (.i .i64))),(39,.cl (.int .i64)),(40,.cl (.int .i64))],[Jd,Li,WJ],Zm,0,73⟩,[(.ext 0,⟨[(6,.cl (.ptr 0 0)),(7,.cl (.ptr 1 0))],[Li,VS],X1,0,73⟩)],[],[1,2,3,6,7,38,39,40],[6,7]⟩
def ES(s: (Int×Int×Unit×Unit×Unit×Unit×Int×Int×Unit)×(MI×LR×LR×Unit)×List Int×List o4×List Int×List mD×List tc×Unit):Lp.R:=
 br (decide (s.1.2.2.2.2.2.2.2.1<s.1.2.2.2.2.2.2.1)) (iteP (0<=s.1.2.2.2.2.2.2.2.1/\s.1.2.2.2.2.2.2.2.1< (s.2.2.1.length:Int)) ((s.2.2.1[s.1.2.2.2.2.2.2.2.1.toNat]?).bind λx37=>iteP (0<=x37/\x37< (s.2.2.2.1.length:Int)) ((s.2.2.2.1[x37.toNat]?).bind λx38=>let j49 (p48:List o4):Lp.R:=some (.inl ((s.1.1,s.1.2.1,(),(),(),(),s.1.2.2.2.2.2.2.1,(acK .i64 (s.1.2.2.2.2.2.2.2.1+1)),()),s.2.1,s.2.2.1,p48,s.2.2.2.2));br x38.up ((GR s.2.1.1.2.2.1 s.1.1 x37).bind λy39=>br y39.1 (iteP (0<=x37/\x37< (s.2.2.2.1.length:Int)) ((s.2.2.2.1[x37.toNat]?).bind λx40=>(s.2.2.2.1[x37.toNat]?).bind λx41=>iteP (0+x40.config.replicas.length<=x41.config.replicas.length) ((s.2.2.2.1[x37.toNat]?).bind λx42=>iteP (0+x40.config.witnesses.length<=x42.config.witnesses.length) ((s.2.2.2.1[x37.toNat]?).bind λx43=>iteP (0+x40.log.length<=x43.log.length) ((s.2.2.2.1[x37.toNat]?).bind λx44=>iteP (0+x40.learned.length<=x44.learned.length) ((JO (⟨x40.up,x40.intact,x40.version,x40.epoch,(⟨x40.config.epoch,x40.config.primary,((x41.config.replicas.drop 0).take x40.config.replicas.length),((x42.config.witnesses.drop 0).take x40.config.witnesses.length)⟩:mD),x40.first,((x43.log.drop 0).take x40.log.length),x40.commit,((x44.learned.drop 0).take x40.learned.length)⟩:o4) s.1.2.1).bind λy45=>iteP (0<=x37/\x37< (s.2.2.2.1.length:Int)) ((s.2.2.2.1[x37.toNat]?).bind λ_=>j49 (s.2.2.2.1.set x37.toNat y45.1)) none) none) none) none) none) none) (j49 s.2.2.2.1)) (j49 s.2.2.2.1)) none) none) (some (.inr (((),(),()),s.2.1.2,s.2.2.2)))
def Ln:=mu ES
def RU[dp] :=F6 Tryz.f108 [0] Lp ES [NX,UB] [] (by kernel_rfl) λs=>by simp only[ES,tm];kernel_rfl
def FA(a0:oZ)(a1:Int)(a2:Int):Option (oZ×Unit):=
 (De a0).bind λy1=>(Dr a0.master).bind λy2=>(DL a0).bind λy3=>br (!y3.1) (some (y1.1,())) (br (!y2.2.1) (some (y1.1,())) ((C0 a2 1 (a0.master.configs.length:Int)).bind λy4=>br (!y4.1) (some (y1.1,())) ((Ib y2.1).bind λy5=>(Ln ((a1,a2,(),(),(),(),(y5.1.length:Int),0,()),((a0.now,a0.servers,a0.sides,a0.master.configs,a0.master.activated,a0.masterUp,a0.lease.epoch,a0.lease.holder,a0.lease.ends,a0.places,()),(0,(),(),(),0,0,0,0,0,(),()),(y1.1.now,(),(),(),y1.1.master.activated,y1.1.masterUp,y1.1.lease.epoch,y1.1.lease.holder,y1.1.lease.ends,(),()),()),y5.1,y1.1.servers,y1.1.sides,y1.1.master.configs,y1.1.places,())).bind λe50=>some ((⟨e50.2.1.2.1.1,e50.2.2.1,e50.2.2.2.1,(⟨e50.2.2.2.2.1,e50.2.1.2.1.2.2.2.2.1⟩:jw),e50.2.1.2.1.2.2.2.2.2.1,(⟨e50.2.1.2.1.2.2.2.2.2.2.1,e50.2.1.2.1.2.2.2.2.2.2.2.1,e50.2.1.2.1.2.2.2.2.2.2.2.2.1⟩:s7),e50.2.2.2.2.2.1⟩:oZ),()))))
def TF[dp] :=Dh 108 Tryz.f108 P1 RR (λx=>FA x.1 x.2.1 x.2.2.1) [HX,HM,E4,D9,OE] [RU] (by kernel_rfl) λx=>by simp only[FA,tm];kernel_rfl
def Kq(a0:oZ)(a1:Int)(a2:Int)(a3:Int):Option (Bool×Unit):=
 iteP (0<=a2) ((a0.servers[a2.toNat]?).bind λx1=>br x1.up ((GR a0.sides a1 a2).bind λy2=>br y2.1 (some ((x1.config.epoch==a3),())) (some (false,()))) (some (false,()))) none
def Su[dp] :=Dh 245 Tryz.f245 aaV [.b] (λx=>Kq x.1 x.2.1 x.2.2.1 x.2.2.2.1) [NX] [] (by kernel_rfl) λx=>by simp only[Kq,tm];kernel_rfl
abbrev O1:LX:=⟨⟨[Ka,LQ,N5,OY,(27,.cl (.own 1 (.i .i64))),(28,.cl (.int .i64)),(29,.cl (.int .i64))],[Jd,X0],Zl,0,45⟩,[(.ext 0,⟨[N5],[],F0,0,45⟩)],[],[1,2,5,6,27,28,29],[5]⟩
def G4(s: (Int×Unit×Unit×Unit×Unit×Int×Int×Unit)×(MI×QZ×Unit)×List Int×List Int×List Int×Unit):O1.R:=
 br (decide (s.1.2.2.2.2.2.2.1<s.1.2.2.2.2.2.1)) (iteP (0<=s.1.2.2.2.2.2.2.1/\s.1.2.2.2.2.2.2.1< (s.2.2.2.1.length:Int)) ((s.2.2.2.1[s.1.2.2.2.2.2.2.1.toNat]?).bind λx21=>(Kq (⟨s.2.1.1.1,s.2.1.1.2.1,s.2.1.1.2.2.1,(⟨s.2.1.1.2.2.2.1,s.2.1.1.2.2.2.2.1⟩:jw),s.2.1.1.2.2.2.2.2.1,(⟨s.2.1.1.2.2.2.2.2.2.1,s.2.1.1.2.2.2.2.2.2.2.1,s.2.1.1.2.2.2.2.2.2.2.2.1⟩:s7),s.2.1.1.2.2.2.2.2.2.2.2.2.1⟩:oZ) s.1.1 x21 s.2.1.2.1.1).bind λy22=>br y22.1 (iteP ((s.2.2.1++([x21]:List Int)).length*8<=2 ^ 40) (some (.inl ((s.1.1,(),(),(),(),s.1.2.2.2.2.2.1,(acK .i64 (s.1.2.2.2.2.2.2.1+1)),()),s.2.1,(s.2.2.1++([x21]:List Int)),s.2.2.2))) none) (some (.inl ((s.1.1,(),(),(),(),s.1.2.2.2.2.2.1,(acK .i64 (s.1.2.2.2.2.2.2.1+1)),()),s.2)))) none) (some (.inr (((),()),(()),s.2.2.1,())))
def OP:=mu G4
def S8[dp] :=F6 Tryz.f244 [0] O1 G4 [Su] [] (by kernel_rfl) λs=>by simp only[G4,tm];kernel_rfl
def FZ(a0:oZ)(a1:Int):Option ((List Int)×Unit):=
 (Dr a0.master).bind λy1=>br (!y1.2.1) (some (([]:List Int),())) ((Dk a0 a1).bind λy2=>br (!y2.1) (some (([]:List Int),())) ((OP ((a1,(),(),(),(),(y1.1.replicas.length:Int),0,()),((a0.now,a0.servers,a0.sides,a0.master.configs,a0.master.activated,a0.masterUp,a0.lease.epoch,a0.lease.holder,a0.lease.ends,a0.places,()),(y1.1.epoch,y1.1.primary,(),(),()),()),([]:List Int),y1.1.replicas,y1.1.witnesses,())).bind λe24=>some e24.2.2))
def UC[dp] :=Dh 244 Tryz.f244 Ki IT (λx=>FZ x.1 x.2.1) [HM,I4] [S8] (by kernel_rfl) λx=>by simp only[FZ,tm];kernel_rfl
abbrev O0:LX:=⟨⟨[LQ,Mu,aa7,SR,OX],[Jd],F0,0,38⟩,[(.ext 0,⟨[Mu],[],[],0,38⟩)],[],[2,5,10,11,12],[5]⟩
def G3(s: (Unit×Int×Unit×Int×Int×Unit)×(MI×Unit)×List Int×Unit):O0.R:=
 br (decide (s.1.2.2.2.2.1<s.1.2.2.2.1)) (iteP (0<=s.1.2.2.2.2.1/\s.1.2.2.2.2.1< (s.2.2.1.length:Int)) ((s.2.2.1[s.1.2.2.2.2.1.toNat]?).bind λx16=>br (decide (s.1.2.1<0)) (some (.inl (((),x16,(),s.1.2.2.2.1,(acK .i64 (s.1.2.2.2.2.1+1)),()),s.2))) (iteP (0<=x16) ((s.2.1.1.2.1[x16.toNat]?).bind λx17=>iteP (0<=s.1.2.1) ((s.2.1.1.2.1[s.1.2.1.toNat]?).bind λx18=>br (decide ((x17.log.length:Int)>(x18.log.length:Int))) (some (.inl (((),x16,(),s.1.2.2.2.1,(acK .i64 (s.1.2.2.2.2.1+1)),()),s.2))) (some (.inl (((),s.1.2.1,(),s.1.2.2.2.1,(acK .i64 (s.1.2.2.2.2.1+1)),()),s.2)))) none) none)) none) (some (.inr ((s.1.2.1,()),(()),(()))))
def Mj:=mu G3
def S7[dp] :=F6 Tryz.f202 [0] O0 G3 [] [] (by kernel_rfl) λs=>by simp only[G3,tm];kernel_rfl
def GD(a0:oZ)(a1:Int):Option (Int×Unit):=
 (FZ a0 a1).bind λy1=>(Mj (((),(-1),(),(y1.1.length:Int),0,()),((a0.now,a0.servers,a0.sides,a0.master.configs,a0.master.activated,a0.masterUp,a0.lease.epoch,a0.lease.holder,a0.lease.ends,a0.places,()),()),y1.1,())).bind λe20=>some e20.1
def Ux[dp] :=Dh 202 Tryz.f202 Ki Iv (λx=>GD x.1 x.2.1) [UC] [S7] (by kernel_rfl) λx=>by simp only[GD,tm];kernel_rfl
def HD(a0:o4):Option ((List pZ)×Unit):=
 br (decide (a0.first<0)) (some (([]:List pZ),())) ((C0 a0.commit a0.first (acK .i64 (a0.first+(a0.log.length:Int)))).bind λy1=>br (!y1.1) (some (([]:List pZ),())) (iteP (0<=(0:Int)/\(0:Int)<=(acK .i64 (a0.commit-a0.first))/\(acK .i64 (a0.commit-a0.first))<=(a0.log.length:Int)) ((DW ((a0.log.drop (0:Int).toNat).take ((acK .i64 (a0.commit-a0.first)).toNat-(0:Int).toNat))).bind λy2=>some (y2.1,())) none))
def RC[dp] :=Dh 267 Tryz.f267 Ul TV (λx=>HD x.1) [D9,Hm] [] (by kernel_rfl) λx=>by simp only[HD,tm];kernel_rfl
def KY(a0:o4)(a1:Int):Option (Bool×Unit):=
 (EH a0.config.replicas a1).bind λy1=>some (y1.1,())
def Vo[dp] :=Dh 125 Tryz.f125 TU [.b] (λx=>KY x.1 x.2.1) [JD] [] (by kernel_rfl) λx=>by simp only[KY,tm];kernel_rfl
def Gw(a0:o4)(a1:Int):Option ((List pZ)×Unit):=
 (HD a0).bind λy1=>(KY a0 a1).bind λy2=>br y2.1 (br (decide ((y1.1.length:Int)>(a0.learned.length:Int))) (some (y1.1,())) ((DW a0.learned).bind λy4=>some (y4.1,()))) ((DW a0.learned).bind λy5=>some (y5.1,()))
def RH[dp] :=Dh 247 Tryz.f247 TU TV (λx=>Gw x.1 x.2.1) [RC,Vo,Hm] [] (by kernel_rfl) λx=>by simp only[Gw,tm];kernel_rfl
def Hj(a1:Int):Option ((List pZ)×Unit):=
 br (decide (a1<0)) (none) (br (decide ((acK .i64 (a1-(acK .i64 (0-0))))>0)) (iteP ((0:Int)=0/\(0:Int)=0) (iteP (0< (acK .i64 (a1-(acK .i64 (0-0))))/\(acK .i64 (a1-(acK .i64 (0-0))))*((56:Nat):Int)<=2 ^ 40) (iteP (0<=(0:Int)/\(0:Int)<=(0:Int)/\(0:Int)<=(((acK .i64 (a1-(acK .i64 (0-0)))).toNat:Nat):Int)) (iteP ((0+(0:Int).toNat)=0/\((0:Int).toNat-(0:Int).toNat)<=(List.replicate (acK .i64 (a1-(acK .i64 (0-0)))).toNat (⟨0,(⟨0,0,0,0,0,0⟩:Op)⟩:pZ)).length) (some (((List.replicate (acK .i64 (a1-(acK .i64 (0-0)))).toNat (⟨0,(⟨0,0,0,0,0,0⟩:Op)⟩:pZ)).take ((0:Int).toNat-(0:Int).toNat)),())) none) none) none) none) (some (([]:List pZ),())))
def QU[dp] :=Dh 285 Tryz.f285 [.nl,.ty (.i .i64)] TV (λx=>Hj x.2.1) [] [] (by kernel_rfl) λx=>by simp only[Hj,tm,-eq_self];kernel_rfl
abbrev MT:LX:=⟨⟨[(0,.cl (.ro (.ls (.st .entry)))),MH,(9,.cl (.ro (.ls (.st .entry)))),ST,SR],[],[],0,36⟩,[(.ext 0,⟨[(0,.cl (.ro (.ls (.st .entry)))),MH],[],[],0,36⟩)],[],[0,3,9,10,11],[0,3]⟩
def FL(s: (List (List pZ)×Int×List (List pZ)×Int×Int×Unit)×Unit×Unit):MT.R:=
 br (decide (s.1.2.2.2.2.1<s.1.2.2.2.1)) (iteP (0<=s.1.2.2.2.2.1) ((s.1.2.2.1[s.1.2.2.2.2.1.toNat]?).bind λx6=>br (decide ((acK .i64 (s.1.2.1+(x6.length:Int)))<0)) (none) (some (.inl ((s.1.1,(acK .i64 (s.1.2.1+(x6.length:Int))),s.1.2.2.1,s.1.2.2.2.1,(acK .i64 (s.1.2.2.2.2.1+1)),()),(()),(()))))) none) (some (.inr ((s.1.1,s.1.2.1,()),(()),(()))))
def MQ:=mu FL
def QL[dp] :=F6 Tryz.f266 [0] MT FL [] [] (by kernel_rfl) λs=>by simp only[FL,tm];kernel_rfl
abbrev ME:LX:=⟨⟨[Un,(25,.cl (.ro (.ls (.st .entry)))),(26,.cl (.int .i64)),(27,.cl (.int .i64))],[],aag,0,36⟩,[(.ext 2,⟨[Un],[],aag,0,36⟩)],[],[6,25,26,27],[6]⟩
def Fx(s: (Unit×List (List pZ)×Int×Int×Unit)×Unit×List pZ×Unit):ME.R:=
 br (decide (s.1.2.2.2.1<s.1.2.2.1)) (iteP (0<=s.1.2.2.2.1) ((s.1.2.1[s.1.2.2.2.1.toNat]?).bind λx13=>iteP ((s.2.2.1++x13).length*56<=2 ^ 40) (some (.inl (((),s.1.2.1,s.1.2.2.1,(acK .i64 (s.1.2.2.2.1+1)),()),(()),(s.2.2.1++x13),()))) none) none) (some (.inr (((),()),(()),s.2.2)))
def Mp:=mu Fx
def Qb[dp] :=F6 Tryz.f266 [1] ME Fx [] [] (by kernel_rfl) λs=>by simp only[Fx,tm];kernel_rfl
def GB(a0:List (List pZ)):Option ((List pZ)×Unit):=
 (MQ ((a0,0,a0,(a0.length:Int),0,()),(()),(()))).bind λe7=>(Hj e7.1.2.1).bind λy8=>(Mp (((),e7.1.1,(e7.1.1.length:Int),0,()),(()),y8.1,())).bind λe14=>some e14.2.2
def RM[dp] :=Dh 266 Tryz.f266 [.ty (.ls (.ls (.st .entry)))] TV (λx=>GB x.1) [QU] [QL,Qb] (by kernel_rfl) λx=>by simp only[GB,tm];kernel_rfl
abbrev NL:LX:=⟨⟨[Ly,(1,.cl (.ro (.st .entry))),OX,Y2],[],[],0,26⟩,[(.ret,⟨[SQ],[],[],0,26⟩),(.ext 0,⟨[MR],[],[],0,26⟩)],[],[0,1,12,13],[4]⟩
def Gd(s:abk×Unit×Unit):NL.R:=
 br (decide (s.1.2.2.2.1<s.1.2.2.1)) (iteP (0<=s.1.2.2.2.1) ((s.1.1[s.1.2.2.2.1.toNat]?).bind λx5=>iteP (0<=s.1.2.2.2.1) ((s.1.2.1[s.1.2.2.2.1.toNat]?).bind λx6=>br (!((x5.epoch==x6.epoch)&&((x5.op.client==x6.op.client)&&((x5.op.seq==x6.op.seq)&&((x5.op.kind==x6.op.kind)&&((x5.op.object==x6.op.object)&&((x5.op.old==x6.op.old)&&((x5.op.value==x6.op.value)&&true)))))))) (some (.inr (.inl ((false,()),(()),(()))))) (some (.inl ((s.1.1,s.1.2.1,s.1.2.2.1,(acK .i64 (s.1.2.2.2.1+1)),()),(()),(()))))) none) none) (some (.inr (.inr (((),()),(()),(())))))
def KH:=mu Gd
def Q9[dp] :=F6 Tryz.f176 [0] NL Gd [] [] (by kernel_rfl) λs=>by simp only[Gd,tm];kernel_rfl
def FJ(a0:List pZ)(a1:List pZ):Option (Bool×Unit):=
 br (!((a0.length:Int)==(a1.length:Int))) (some (false,())) ((KH ((a0,a1,(a0.length:Int),0,()),(()),(()))).bind λe7=>Sum.elim (λe7_0=>some e7_0.1) (λ_=>some (true,())) e7)
def OO[dp] :=Dh 176 Tryz.f176 aaS [.b] (λx=>FJ x.1 x.2.1) [] [Q9] (by kernel_rfl) λx=>by simp only[FJ,tm];kernel_rfl
def L5(a0:List pZ)(a1:Int)(a2:List pZ):Option ((List pZ)×Bool×Unit):=
 (H3 a0).bind λy1=>br (!y1.1) (some (([]:List pZ),false,())) ((L7 a1 a2).bind λy2=>br (!y2.1) (some (([]:List pZ),false,())) (br (decide (a1>(a0.length:Int))) (some (([]:List pZ),false,())) (iteP (0<=(if (acK .i64 ((a0.length:Int)-a1))< (a2.length:Int) then (acK .i64 ((a0.length:Int)-a1)) else (a2.length:Int))/\(if (acK .i64 ((a0.length:Int)-a1))< (a2.length:Int) then (acK .i64 ((a0.length:Int)-a1)) else (a2.length:Int))<=(a2.length:Int)/\(a2.length:Int)<=(a2.length:Int)) ((GB ([a0,((a2.drop (if (acK .i64 ((a0.length:Int)-a1))< (a2.length:Int) then (acK .i64 ((a0.length:Int)-a1)) else (a2.length:Int)).toNat).take ((a2.length:Int).toNat-(if (acK .i64 ((a0.length:Int)-a1))< (a2.length:Int) then (acK .i64 ((a0.length:Int)-a1)) else (a2.length:Int)).toNat))]:List (List pZ))).bind λy3=>iteP (0<=a1/\a1<=(acK .i64 (a1+(if (acK .i64 ((a0.length:Int)-a1))< (a2.length:Int) then (acK .i64 ((a0.length:Int)-a1)) else (a2.length:Int))))/\(acK .i64 (a1+(if (acK .i64 ((a0.length:Int)-a1))< (a2.length:Int) then (acK .i64 ((a0.length:Int)-a1)) else (a2.length:Int))))<=(a0.length:Int)) (iteP (0<=(0:Int)/\(0:Int)<=(if (acK .i64 ((a0.length:Int)-a1))< (a2.length:Int) then (acK .i64 ((a0.length:Int)-a1)) else (a2.length:Int))/\(if (acK .i64 ((a0.length:Int)-a1))< (a2.length:Int) then (acK .i64 ((a0.length:Int)-a1)) else (a2.length:Int))<=(a2.length:Int)) ((FJ ((a0.drop a1.toNat).take ((acK .i64 (a1+(if (acK .i64 ((a0.length:Int)-a1))< (a2.length:Int) then (acK .i64 ((a0.length:Int)-a1)) else (a2.length:Int)))).toNat-a1.toNat)) ((a2.drop (0:Int).toNat).take ((if (acK .i64 ((a0.length:Int)-a1))< (a2.length:Int) then (acK .i64 ((a0.length:Int)-a1)) else (a2.length:Int)).toNat-(0:Int).toNat))).bind λy4=>br (!y4.1) (some (([]:List pZ),false,())) ((H3 y3.1).bind λy5=>br (!y5.1) (some (([]:List pZ),false,())) (some (y3.1,true,())))) none) none) none)))
def Wl[dp] :=Dh 246 Tryz.f246 aaT XY (λx=>L5 x.1 x.2.1 x.2.2.1) [Qq,Vp,RM,OO] [] (by kernel_rfl) λx=>by simp only[L5,tm];kernel_rfl
abbrev Lq:LX:=⟨⟨[Ka,LQ,OY,Xi,PG,(12,.cl (.ptr 2 0)),Y4,Y5,Y6,(52,.cl (.ro (.st .server))),(53,.cl (.int .i64)),(54,.cl (.int .i64))],[Jd,Zk,Zg],X2,0,99⟩,[(.ext 2,⟨[Ka,LQ,OY,Xi,PG,Y4,Y5,Y6],[Jd,Zk],X2,0,99⟩)],[],[1,2,6,8,9,12,33,34,35,52,53,54],[1,2,6,8,9,33,34,35]⟩
def Gq(s: (Int×Unit×Unit×Unit×Bool×Unit×Unit×Int×Int×List o4×Int×Int×Unit)×(MI×QZ×Y8×Unit)×List pZ×List Int×List Int×Unit):Lq.R:=
 br (decide (s.1.2.2.2.2.2.2.2.2.2.2.2.1<s.1.2.2.2.2.2.2.2.2.2.2.1)) (iteP (0<=s.1.2.2.2.2.2.2.2.2.2.2.2.1) ((s.1.2.2.2.2.2.2.2.2.2.1[s.1.2.2.2.2.2.2.2.2.2.2.2.1.toNat]?).bind λx59=>let j65 (p63:List pZ) (p64:Bool):Lq.R:=some (.inl ((s.1.1,(),(),(),p64,(),(),s.1.2.2.2.2.2.2.2.1,s.1.2.2.2.2.2.2.2.2.1,s.1.2.2.2.2.2.2.2.2.2.1,s.1.2.2.2.2.2.2.2.2.2.2.1,(acK .i64 (s.1.2.2.2.2.2.2.2.2.2.2.2.1+1)),()),s.2.1,p63,s.2.2.2));br (!x59.up) (j65 s.2.2.1 s.1.2.2.2.2.1) ((GR s.2.1.1.2.2.1 s.1.1 s.1.2.2.2.2.2.2.2.2.2.2.2.1).bind λy60=>br (!y60.1) (j65 s.2.2.1 s.1.2.2.2.2.1) ((Gw x59 s.1.2.2.2.2.2.2.2.2.2.2.2.1).bind λy61=>(L5 y61.1 s.2.1.2.2.1.2.2.2.2.2.2.2.2.1 s.2.1.2.2.1.2.2.2.2.2.2.2.2.2.1).bind λy62=>br y62.2.1 (br (!s.1.2.2.2.2.1) (j65 y62.1 true) (br (decide ((y62.1.length:Int)>(s.2.2.1.length:Int))) (j65 y62.1 true) (j65 s.2.2.1 s.1.2.2.2.2.1))) (j65 s.2.2.1 s.1.2.2.2.2.1)))) none) (some (.inr ((s.1.1,(),(),(),s.1.2.2.2.2.1,(),s.1.2.2.2.2.2.2.2.1,s.1.2.2.2.2.2.2.2.2.1,()),(s.2.1.1,s.2.1.2.1,()),s.2.2)))
def Og:=mu Gq
def RV[dp] :=F6 Tryz.f204 [0,0] Lq Gq [NX,RH,Wl] [] (by kernel_rfl) λs=>by simp only[Gq,tm];kernel_rfl
abbrev O2:LX:=⟨⟨[Ka,LQ,OY,Xi,PG,Y4,Y5,Y6],[Jd,Zk],X2,0,99⟩,[(.ext 0,⟨[Xi,PG],[],aag,0,99⟩)],[],[1,2,6,8,9,33,34,35],[8,9]⟩
def G5(s: (Int×Unit×Unit×Unit×Bool×Unit×Int×Int×Unit)×(MI×QZ×Unit)×List pZ×List Int×List Int×Unit):O2.R:=
 br (decide (s.1.2.2.2.2.2.2.2.1<s.1.2.2.2.2.2.2.1)) (iteP (0<=s.1.2.2.2.2.2.2.2.1/\s.1.2.2.2.2.2.2.2.1< (s.2.2.2.1.length:Int)) ((s.2.2.2.1[s.1.2.2.2.2.2.2.2.1.toNat]?).bind λx22=>(Kq (⟨s.2.1.1.1,s.2.1.1.2.1,s.2.1.1.2.2.1,(⟨s.2.1.1.2.2.2.1,s.2.1.1.2.2.2.2.1⟩:jw),s.2.1.1.2.2.2.2.2.1,(⟨s.2.1.1.2.2.2.2.2.2.1,s.2.1.1.2.2.2.2.2.2.2.1,s.2.1.1.2.2.2.2.2.2.2.2.1⟩:s7),s.2.1.1.2.2.2.2.2.2.2.2.2.1⟩:oZ) s.1.1 x22 s.2.1.2.1.1).bind λy23=>br (!y23.1) (some (.inl ((s.1.1,(),(),(),s.1.2.2.2.2.1,(),s.1.2.2.2.2.2.2.1,(acK .i64 (s.1.2.2.2.2.2.2.2.1+1)),()),s.2))) (iteP (0<=x22) ((s.2.1.1.2.1[x22.toNat]?).bind λx24=>(Og ((s.1.1,(),(),(),s.1.2.2.2.2.1,(),(),s.1.2.2.2.2.2.2.1,s.1.2.2.2.2.2.2.2.1,s.2.1.1.2.1,(s.2.1.1.2.1.length:Int),0,()),(s.2.1.1,s.2.1.2.1,(x24.up,x24.intact,x24.version,x24.epoch,x24.config.epoch,x24.config.primary,x24.config.replicas,x24.config.witnesses,x24.first,x24.log,x24.commit,x24.learned,()),()),s.2.2)).bind λe66=>some (.inl ((e66.1.1,(),(),(),e66.1.2.2.2.2.1,(),e66.1.2.2.2.2.2.2.1,(acK .i64 (e66.1.2.2.2.2.2.2.2.1+1)),()),e66.2))) none)) none) (some (.inr (((),s.1.2.2.2.2.1,()),(()),s.2.2.1,())))
def OQ:=mu G5
def S9[dp] :=F6 Tryz.f204 [0] O2 G5 [Su] [RV] (by kernel_rfl) λs=>by simp only[G5,tm];kernel_rfl
def GH(a0:oZ)(a1:Int):Option ((List pZ)×Bool×Unit):=
 (Dr a0.master).bind λy1=>br (!y1.2.1) (some (([]:List pZ),false,())) ((Dk a0 a1).bind λy2=>br (!y2.1) (some (([]:List pZ),false,())) ((OQ ((a1,(),(),(),false,(),(y1.1.witnesses.length:Int),0,()),((a0.now,a0.servers,a0.sides,a0.master.configs,a0.master.activated,a0.masterUp,a0.lease.epoch,a0.lease.holder,a0.lease.ends,a0.places,()),(y1.1.epoch,y1.1.primary,(),(),()),()),([]:List pZ),y1.1.witnesses,y1.1.replicas,())).bind λe86=>br (!e86.1.2.1) (some (([]:List pZ),false,())) (some (e86.2.2.1,true,()))))
def UD[dp] :=Dh 204 Tryz.f204 Ki XY (λx=>GH x.1 x.2.1) [HM,I4] [S9] (by kernel_rfl) λx=>by simp only[GH,tm];kernel_rfl
def Ho(a0:oZ)(a1:Int):Option ((List pZ)×Bool×Unit):=
 (Dk a0 a1).bind λy1=>br (!y1.1) (some (([]:List pZ),false,())) (br (a0.master.activated==0) (some (([]:List pZ),true,())) ((GD a0 a1).bind λy2=>br (decide (y2.1≥0)) (iteP (0<=y2.1) ((a0.servers[y2.1.toNat]?).bind λx3=>(DW x3.log).bind λy4=>some (y4.1,true,())) none) ((GH a0 a1).bind λy5=>some (y5.1,y5.2.1,()))))
def Vn[dp] :=Dh 109 Tryz.f109 Ki XY (λx=>Ho x.1 x.2.1) [I4,Ux,Hm,UD] [] (by kernel_rfl) λx=>by simp only[Ho,tm];kernel_rfl
def IV(a0:Int)(a1:oZ):Option (Bool×Unit):=
 (Ic a1 a0).bind λy1=>some ((!y1.1),())
def Tx[dp] :=Dh 110 Tryz.f110 aa1 [.b] (λx=>IV x.1 x.2.1) [PV] [] (by kernel_rfl) λx=>by simp only[IV,tm];kernel_rfl
end
end Go.Proofs.YtkghndikalnipaaGreat.En
