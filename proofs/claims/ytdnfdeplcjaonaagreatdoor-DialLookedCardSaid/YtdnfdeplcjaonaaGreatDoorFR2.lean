/-
  A book's rows as a source to copy from; strings and trains as arguments.
-/
import Derived.Test.YtdnfdeplcjaonaaGreatDoorF09
namespace Go.Proofs.YtdnfdeplcjaonaaGreatDoor
open Go.RL Go.ChangeShapes Go.WideShapes Go.ChangeAt Go.RowKit
set_option maxRecDepth 100000
theorem rows_flat {gs:List Value}{o sz:Nat}{f:Nat→List Value}(h0:0<sz)(hf:∀i,(f i).length=sz):∀n,(∀i,i<n→(gs.drop (o+i*sz)).take sz=f i)→(gs.drop o).take (n*sz)=flatR n f
 | 0,_=> by simp[flatR]
 | n+1,h=> by
   rw[flatR_succ,←rows_flat h0 hf n (fun i hi=> h i (by omega)),←h n (by omega),Nat.succ_mul,List.take_add,List.drop_drop]
theorem rows_src {H:View}{b o c sz n:Nat}{g:Bool}{gs:List Value}{gt:TypeId}{gz:Nat×Nat}{f:Nat→List Value}(h0:0<sz)(hf:∀i,(f i).length=sz)(hn:0<n)(hb:H b=some (g,.cells ⟨gs⟩ gt gz))(h:∀i:Nat,i<n→o+i*sz+sz≤gs.length∧(gs.drop (o+i*sz)).take sz=f i):
   SrcAt H sz (.slice (some ⟨b,o,none⟩) n c) n (flatR n f):=by
 have h1:=(h (n-1) (by omega)).1
 have h2:o+n*sz≤gs.length:=by
   have:n*sz=(n-1)*sz+sz:=by rw[←Nat.succ_mul];congr 1;omega
   omega
 have:=SrcAt.of (sz:=sz) (m:=n) (c:=c) (off:=o) hb h2
 rw[rows_flat h0 hf n (fun i hi=> (h i hi).2)] at this
 exact this
theorem free_src {H:View}{F:Option Addr}{n c:Nat}{x:Nat→Int}(h:FreeAt H F n x):SrcAt H 1 (.slice F n c) n (flatR n (freeL x)):=by
 rcases Nat.eq_zero_or_pos n with h0|h0
 · subst h0
   exact⟨⟨_,_,rfl⟩,rfl,.inl ⟨_,_,rfl,rfl⟩⟩
 · rcases h with h|⟨b,o,f,gs,gt,gz,rfl,hb,hl⟩
   · omega
   · refine rows_src (by decide) (fun _=> rfl) h0 hb fun i hi=> ?_
     have h1:=hl i hi
     rw[Int.toNat_natCast] at h1
     have h2:gs[o+i*1]? =some (.int .i64 (x i)):=h1
     obtain⟨h3,h4⟩:=List.getElem?_eq_some_iff.1 h2
     refine⟨by omega,?_⟩
     rw[List.drop_eq_getElem_cons h3,h4]
     rfl
theorem ldL_row {sz off:Nat}{gs c:List Value}(h:ldL true sz gs off=some (.agg ⟨c⟩)):off+sz≤gs.length∧(gs.drop off).take sz=c:=by
 obtain⟨h1,h2⟩:=ldL_le h
 simp only[Value.agg.injEq,Array.mk.injEq] at h2
 exact⟨h1,h2.symm⟩
theorem BkAt.book {H:View}{k:Bk}{A:Option Addr}{lc:Nat}{B:Option Addr}{tc:Nat}(h:BkAt H k A lc B tc):∃F fc,BookAt H k A lc B tc F fc:=by
 obtain⟨⟨hlc,hA⟩,htc,hT⟩:=h
 have hT':SrcAt H 4 (.slice B k.nt tc) k.nt (flatR k.nt (trainL k)):=by
   rcases Nat.eq_zero_or_pos k.nt with h0|h0
   · rw[h0]
     exact⟨⟨_,_,rfl⟩,rfl,.inl ⟨_,_,rfl,rfl⟩⟩
   · rcases hT with h|⟨b,o,f,gs,gt,gz,rfl,hb,hl⟩
     · omega
     · refine rows_src (by decide) (fun _=> rfl) h0 hb fun i hi=> ?_
       have:=ldL_row (hl i hi)
       rw[Int.toNat_natCast] at this
       exact this
 rcases Nat.eq_zero_or_pos k.nl with h0|h0
 · refine⟨fun _=> none,fun _=> 0,hlc,htc,?_,hT',fun i hi=> by omega,fun i hi=> by omega⟩
   rw[h0]
   exact⟨⟨_,_,rfl⟩,rfl,.inl ⟨_,_,rfl,rfl⟩⟩
 · rcases hA with h|⟨b,o,f,gs,gt,gz,rfl,hb,hl⟩
   · omega
   · have hex:∀i,i<k.nl→∃x:Option Addr×Nat,ldL true 3 gs (o+(i:Int).toNat*3)=some (lineV (k.name i) (k.num i) x.1 (k.nf i) x.2)∧k.nf i≤x.2∧FreeAt H x.1 (k.nf i) (k.free i):=fun i hi=> by
       obtain⟨F,fc,h1⟩:=hl i hi
       exact⟨(F,fc),h1⟩
     obtain⟨y,hy⟩:=Go.Deep.choose_lt hex
     refine⟨fun i=> (y i).1,fun i=> (y i).2,hlc,htc,rows_src (f:=rowL k (fun i=> (y i).1) fun i=> (y i).2) (by decide) (fun _=> rfl) h0 hb fun i hi=> ?_,hT',fun i hi=> (hy i hi).2.1,fun i hi=> free_src (hy i hi).2.2⟩
     have:=ldL_row (hy i hi).1
     rw[Int.toNat_natCast] at this
     exact this
section
variable {H:Type}{enc:TypeId×Value→H}{W:World}
end
end Go.Proofs.YtdnfdeplcjaonaaGreatDoor
