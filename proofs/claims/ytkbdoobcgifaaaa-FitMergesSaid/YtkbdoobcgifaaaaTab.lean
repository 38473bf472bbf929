/- A part of the walks by abstract values: no statement of its own. -/
import Derived.Test.YtkbdoobcgifaaaaG2
import Derived.Test.YtkbdoobcgifaaaaProg
import Derived.KernelRfl
namespace Go.Cg
open Go.Proofs
def tb : Tab := .node 75 ⟨1, 8, some (.nilFunc), .scalar⟩
 (.node 37 ⟨1, 0, some (.tuple #[.agg #[.int .i64 0, .int .i64 0, .int .i64 0, .bool false], .int .i64 0]), .scalar⟩
  (.node 18 ⟨1, 8, some (.agg #[.pointer none]), .agg [(0, 17, 1)] false⟩
   (.node 9 ⟨1, 16, some (.string ByteArray.empty), .str⟩
    (.node 4 ⟨1, 1, some (.bool false), .bool⟩
     (.node 2 ⟨1, 8, some (.int .i64 0), .int .i64⟩
      (.node 1 ⟨1, 8, some (.nilFunc), .scalar⟩
       (.node 0 ⟨1, 0, some (.tuple #[]), .scalar⟩
        (.leaf)
        (.leaf))
       (.leaf))
      (.node 3 ⟨1, 8, some (.int .i64 0), .int .i64⟩
       (.leaf)
       (.leaf)))
     (.node 7 ⟨4, 24, some (.agg #[.int .i64 0, .int .i64 0, .bool false, .int .u8 0]), .agg [(0, 2, 1), (1, 3, 1), (2, 4, 1), (3, 6, 1)] true⟩
      (.node 6 ⟨1, 1, some (.int .u8 0), .int .u8⟩
       (.node 5 ⟨1, 1, some (.int .u8 0), .int .u8⟩
        (.leaf)
        (.leaf))
       (.leaf))
      (.node 8 ⟨4, 24, some (.agg #[.int .i64 0, .int .i64 0, .bool false, .int .u8 0]), .agg [(0, 2, 1), (1, 3, 1), (2, 4, 1), (3, 6, 1)] true⟩
       (.leaf)
       (.leaf))))
    (.node 14 ⟨2, 24, some (.agg #[.string ByteArray.empty, .int .u64 0]), .agg [(0, 9, 1), (1, 12, 1)] false⟩
     (.node 12 ⟨1, 8, some (.int .u64 0), .int .u64⟩
      (.node 11 ⟨1, 16, some (.string ByteArray.empty), .str⟩
       (.node 10 ⟨1, 16, some (.string ByteArray.empty), .str⟩
        (.leaf)
        (.leaf))
       (.leaf))
      (.node 13 ⟨2, 24, some (.agg #[.string ByteArray.empty, .int .u64 0]), .agg [(0, 9, 1), (1, 12, 1)] false⟩
       (.leaf)
       (.leaf)))
     (.node 16 ⟨1, 8, some (.pointer none), .ptr 139⟩
      (.node 15 ⟨1, 8, some (.pointer none), .ptr 136⟩
       (.leaf)
       (.leaf))
      (.node 17 ⟨1, 8, some (.pointer none), .ptr 148⟩
       (.leaf)
       (.leaf)))))
   (.node 28 ⟨4, 32, some (.agg #[.int .i64 0, .int .i64 0, .int .i64 0, .bool false]), .agg [(0, 3, 1), (1, 3, 1), (2, 3, 1), (3, 4, 1)] true⟩
    (.node 23 ⟨1, 24, some (.slice none 0 0), .sl 80⟩
     (.node 21 ⟨1, 4, some (.int .i32 0), .int .i32⟩
      (.node 20 ⟨1, 16, some (.nilIface), .scalar⟩
       (.node 19 ⟨1, 8, some (.agg #[.pointer none]), .agg [(0, 17, 1)] false⟩
        (.leaf)
        (.leaf))
       (.leaf))
      (.node 22 ⟨1, 24, some (.slice none 0 0), .sl 61⟩
       (.leaf)
       (.leaf)))
     (.node 26 ⟨4, 80, some (.agg #[.slice none 0 0, .slice none 0 0, .slice none 0 0, .int .i64 0]), .agg [(0, 22, 1), (1, 23, 1), (2, 24, 1), (3, 3, 1)] true⟩
      (.node 25 ⟨4, 80, some (.agg #[.slice none 0 0, .slice none 0 0, .slice none 0 0, .int .i64 0]), .agg [(0, 22, 1), (1, 23, 1), (2, 24, 1), (3, 3, 1)] true⟩
       (.node 24 ⟨1, 24, some (.slice none 0 0), .sl 48⟩
        (.leaf)
        (.leaf))
       (.leaf))
      (.node 27 ⟨4, 32, some (.agg #[.int .i64 0, .int .i64 0, .int .i64 0, .bool false]), .agg [(0, 3, 1), (1, 3, 1), (2, 3, 1), (3, 4, 1)] true⟩
       (.leaf)
       (.leaf))))
    (.node 33 ⟨1, 8, some (.nilFunc), .scalar⟩
     (.node 31 ⟨1, 8, some (.nilFunc), .scalar⟩
      (.node 30 ⟨1, 8, some (.nilFunc), .scalar⟩
       (.node 29 ⟨12, 96, some (.agg #[.int .i64 0, .int .i64 0, .int .i64 0, .bool false, .int .i64 0, .int .i64 0, .int .i64 0, .bool false, .int .i64 0, .int .i64 0, .int .i64 0, .bool false]), .arr 3 28⟩
        (.leaf)
        (.leaf))
       (.leaf))
      (.node 32 ⟨1, 8, some (.nilFunc), .scalar⟩
       (.leaf)
       (.leaf)))
     (.node 35 ⟨1, 8, some (.nilFunc), .scalar⟩
      (.node 34 ⟨1, 8, some (.nilFunc), .scalar⟩
       (.leaf)
       (.leaf))
      (.node 36 ⟨1, 8, some (.int .i64 0), .int .i64⟩
       (.leaf)
       (.leaf))))))
  (.node 56 ⟨1, 8, some (.nilFunc), .scalar⟩
   (.node 47 ⟨12, 168, some (.agg #[.string ByteArray.empty, .int .i64 0, .int .i64 0, .slice none 0 0, .int .i64 0, .int .i64 0, .int .i64 0, .bool false, .slice none 0 0, .int .i64 0, .slice none 0 0, .slice none 0 0]), .agg [(0, 9, 1), (1, 3, 1), (2, 3, 1), (3, 40, 1), (4, 28, 4), (8, 40, 1), (9, 3, 1), (10, 45, 1), (11, 46, 1)] true⟩
    (.node 42 ⟨1, 8, some (.nilFunc), .scalar⟩
     (.node 40 ⟨1, 24, some (.slice none 0 0), .sl 28⟩
      (.node 39 ⟨1, 8, some (.nilFunc), .scalar⟩
       (.node 38 ⟨1, 8, some (.nilFunc), .scalar⟩
        (.leaf)
        (.leaf))
       (.leaf))
      (.node 41 ⟨1, 0, some (.tuple #[.slice none 0 0, .int .i64 0]), .scalar⟩
       (.leaf)
       (.leaf)))
     (.node 45 ⟨1, 24, some (.slice none 0 0), .sl 93⟩
      (.node 44 ⟨1, 8, some (.nilFunc), .scalar⟩
       (.node 43 ⟨1, 8, some (.nilFunc), .scalar⟩
        (.leaf)
        (.leaf))
       (.leaf))
      (.node 46 ⟨1, 24, some (.slice none 0 0), .sl 100⟩
       (.leaf)
       (.leaf))))
    (.node 52 ⟨1, 8, some (.nilFunc), .scalar⟩
     (.node 50 ⟨1, 8, some (.nilFunc), .scalar⟩
      (.node 49 ⟨1, 0, some (.tuple #[.agg #[.int .i64 0, .int .i64 0, .int .i64 0, .bool false], .bool false]), .scalar⟩
       (.node 48 ⟨12, 168, some (.agg #[.string ByteArray.empty, .int .i64 0, .int .i64 0, .slice none 0 0, .int .i64 0, .int .i64 0, .int .i64 0, .bool false, .slice none 0 0, .int .i64 0, .slice none 0 0, .slice none 0 0]), .agg [(0, 9, 1), (1, 3, 1), (2, 3, 1), (3, 40, 1), (4, 28, 4), (8, 40, 1), (9, 3, 1), (10, 45, 1), (11, 46, 1)] true⟩
        (.leaf)
        (.leaf))
       (.leaf))
      (.node 51 ⟨1, 8, some (.nilFunc), .scalar⟩
       (.leaf)
       (.leaf)))
     (.node 54 ⟨1, 8, some (.nilFunc), .scalar⟩
      (.node 53 ⟨1, 1, some (.int .i8 0), .int .i8⟩
       (.leaf)
       (.leaf))
      (.node 55 ⟨1, 0, some (.tuple #[.slice none 0 0, .slice none 0 0, .int .i64 0]), .scalar⟩
       (.leaf)
       (.leaf)))))
   (.node 66 ⟨1, 8, some (.nilFunc), .scalar⟩
    (.node 61 ⟨4, 56, some (.agg #[.string ByteArray.empty, .int .i64 0, .int .i64 0, .slice none 0 0]), .agg [(0, 9, 1), (1, 3, 1), (2, 3, 1), (3, 59, 1)] true⟩
     (.node 59 ⟨1, 24, some (.slice none 0 0), .sl 3⟩
      (.node 58 ⟨1, 8, some (.nilFunc), .scalar⟩
       (.node 57 ⟨1, 8, some (.nilFunc), .scalar⟩
        (.leaf)
        (.leaf))
       (.leaf))
      (.node 60 ⟨4, 56, some (.agg #[.string ByteArray.empty, .int .i64 0, .int .i64 0, .slice none 0 0]), .agg [(0, 9, 1), (1, 3, 1), (2, 3, 1), (3, 59, 1)] true⟩
       (.leaf)
       (.leaf)))
     (.node 64 ⟨1, 8, some (.nilFunc), .scalar⟩
      (.node 63 ⟨1, 8, some (.nilFunc), .scalar⟩
       (.node 62 ⟨1, 0, some (.tuple #[.int .i64 0, .int .i64 0]), .scalar⟩
        (.leaf)
        (.leaf))
       (.leaf))
      (.node 65 ⟨1, 8, some (.nilFunc), .scalar⟩
       (.leaf)
       (.leaf))))
    (.node 71 ⟨1, 8, some (.nilFunc), .scalar⟩
     (.node 69 ⟨1, 8, some (.nilFunc), .scalar⟩
      (.node 68 ⟨1, 8, some (.nilFunc), .scalar⟩
       (.node 67 ⟨1, 8, some (.nilFunc), .scalar⟩
        (.leaf)
        (.leaf))
       (.leaf))
      (.node 70 ⟨1, 8, some (.nilFunc), .scalar⟩
       (.leaf)
       (.leaf)))
     (.node 73 ⟨1, 8, some (.nilFunc), .scalar⟩
      (.node 72 ⟨1, 8, some (.nilFunc), .scalar⟩
       (.leaf)
       (.leaf))
      (.node 74 ⟨1, 8, some (.nilFunc), .scalar⟩
       (.leaf)
       (.leaf)))))))
 (.node 113 ⟨1, 8, some (.nilFunc), .scalar⟩
  (.node 94 ⟨1, 8, some (.nilFunc), .scalar⟩
   (.node 85 ⟨1, 8, some (.nilFunc), .scalar⟩
    (.node 80 ⟨7, 64, some (.agg #[.string ByteArray.empty, .int .i64 0, .int .i64 0, .int .i64 0, .int .i64 0, .bool false, .bool false]), .agg [(0, 9, 1), (1, 3, 1), (2, 28, 4), (6, 4, 1)] true⟩
     (.node 78 ⟨1, 8, some (.nilFunc), .scalar⟩
      (.node 77 ⟨1, 8, some (.nilFunc), .scalar⟩
       (.node 76 ⟨1, 24, some (.slice none 0 0), .sl 40⟩
        (.leaf)
        (.leaf))
       (.leaf))
      (.node 79 ⟨7, 64, some (.agg #[.string ByteArray.empty, .int .i64 0, .int .i64 0, .int .i64 0, .int .i64 0, .bool false, .bool false]), .agg [(0, 9, 1), (1, 3, 1), (2, 28, 4), (6, 4, 1)] true⟩
       (.leaf)
       (.leaf)))
     (.node 83 ⟨1, 8, some (.nilFunc), .scalar⟩
      (.node 82 ⟨1, 8, some (.nilFunc), .scalar⟩
       (.node 81 ⟨1, 8, some (.nilFunc), .scalar⟩
        (.leaf)
        (.leaf))
       (.leaf))
      (.node 84 ⟨1, 8, some (.nilFunc), .scalar⟩
       (.leaf)
       (.leaf))))
    (.node 90 ⟨1, 8, some (.map none), .map 3 3⟩
     (.node 88 ⟨1, 8, some (.nilFunc), .scalar⟩
      (.node 87 ⟨1, 8, some (.nilFunc), .scalar⟩
       (.node 86 ⟨1, 8, some (.nilFunc), .scalar⟩
        (.leaf)
        (.leaf))
       (.leaf))
      (.node 89 ⟨1, 8, some (.nilFunc), .scalar⟩
       (.leaf)
       (.leaf)))
     (.node 92 ⟨6, 48, some (.agg #[.int .i64 0, .int .i64 0, .int .i64 0, .int .i64 0, .int .i64 0, .bool false]), .agg [(0, 3, 1), (1, 2, 1), (2, 28, 4)] true⟩
      (.node 91 ⟨1, 8, some (.nilFunc), .scalar⟩
       (.leaf)
       (.leaf))
      (.node 93 ⟨6, 48, some (.agg #[.int .i64 0, .int .i64 0, .int .i64 0, .int .i64 0, .int .i64 0, .bool false]), .agg [(0, 3, 1), (1, 2, 1), (2, 28, 4)] true⟩
       (.leaf)
       (.leaf)))))
   (.node 104 ⟨1, 8, some (.nilFunc), .scalar⟩
    (.node 99 ⟨10, 80, some (.agg #[.int .i64 0, .int .i64 0, .int .i64 0, .int .i64 0, .int .i64 0, .int .i64 0, .int .i64 0, .int .i64 0, .int .i64 0, .bool false]), .agg [(0, 3, 1), (1, 3, 1), (2, 3, 1), (3, 3, 1), (4, 3, 1), (5, 3, 1), (6, 28, 4)] true⟩
     (.node 97 ⟨1, 0, some (.tuple #[.agg #[.string ByteArray.empty, .int .i64 0, .int .i64 0], .int .i64 0]), .scalar⟩
      (.node 96 ⟨3, 32, some (.agg #[.string ByteArray.empty, .int .i64 0, .int .i64 0]), .agg [(0, 9, 1), (1, 3, 1), (2, 3, 1)] true⟩
       (.node 95 ⟨3, 32, some (.agg #[.string ByteArray.empty, .int .i64 0, .int .i64 0]), .agg [(0, 9, 1), (1, 3, 1), (2, 3, 1)] true⟩
        (.leaf)
        (.leaf))
       (.leaf))
      (.node 98 ⟨1, 8, some (.nilFunc), .scalar⟩
       (.leaf)
       (.leaf)))
     (.node 102 ⟨1, 8, some (.nilFunc), .scalar⟩
      (.node 101 ⟨1, 8, some (.nilFunc), .scalar⟩
       (.node 100 ⟨10, 80, some (.agg #[.int .i64 0, .int .i64 0, .int .i64 0, .int .i64 0, .int .i64 0, .int .i64 0, .int .i64 0, .int .i64 0, .int .i64 0, .bool false]), .agg [(0, 3, 1), (1, 3, 1), (2, 3, 1), (3, 3, 1), (4, 3, 1), (5, 3, 1), (6, 28, 4)] true⟩
        (.leaf)
        (.leaf))
       (.leaf))
      (.node 103 ⟨1, 8, some (.nilFunc), .scalar⟩
       (.leaf)
       (.leaf))))
    (.node 109 ⟨1, 8, some (.nilFunc), .scalar⟩
     (.node 107 ⟨1, 8, some (.nilFunc), .scalar⟩
      (.node 106 ⟨1, 0, some (.tuple #[.int .i64 0, .int .i64 0]), .scalar⟩
       (.node 105 ⟨1, 8, some (.int .u64 0), .int .u64⟩
        (.leaf)
        (.leaf))
       (.leaf))
      (.node 108 ⟨1, 8, some (.nilFunc), .scalar⟩
       (.leaf)
       (.leaf)))
     (.node 111 ⟨1, 8, some (.int .i64 0), .int .i64⟩
      (.node 110 ⟨1, 8, some (.nilFunc), .scalar⟩
       (.leaf)
       (.leaf))
      (.node 112 ⟨1, 0, some (.tuple #[.int .i64 0, .int .i64 0]), .scalar⟩
       (.leaf)
       (.leaf))))))
  (.node 132 ⟨1, 8, some (.pointer none), .ptr 124⟩
   (.node 123 ⟨1, 8, some (.nilFunc), .scalar⟩
    (.node 118 ⟨1, 8, some (.nilFunc), .scalar⟩
     (.node 116 ⟨1, 0, some (.tuple #[.int .i64 0, .bool false]), .scalar⟩
      (.node 115 ⟨1, 8, some (.nilFunc), .scalar⟩
       (.node 114 ⟨1, 8, some (.nilFunc), .scalar⟩
        (.leaf)
        (.leaf))
       (.leaf))
      (.node 117 ⟨1, 8, some (.nilFunc), .scalar⟩
       (.leaf)
       (.leaf)))
     (.node 121 ⟨1, 8, some (.int .u64 0), .int .u64⟩
      (.node 120 ⟨1, 8, some (.nilFunc), .scalar⟩
       (.node 119 ⟨1, 4, some (.int .u32 0), .int .u32⟩
        (.leaf)
        (.leaf))
       (.leaf))
      (.node 122 ⟨1, 8, some (.nilFunc), .scalar⟩
       (.leaf)
       (.leaf))))
    (.node 128 ⟨1, 8, some (.pointer none), .ptr 3⟩
     (.node 126 ⟨1, 8, some (.nilFunc), .scalar⟩
      (.node 125 ⟨1, 8, some (.nilFunc), .scalar⟩
       (.node 124 ⟨1, 8, some (.int .u64 0), .int .u64⟩
        (.leaf)
        (.leaf))
       (.leaf))
      (.node 127 ⟨1, 8, some (.nilFunc), .scalar⟩
       (.leaf)
       (.leaf)))
     (.node 130 ⟨1, 8, some (.nilFunc), .scalar⟩
      (.node 129 ⟨1, 8, some (.nilFunc), .scalar⟩
       (.leaf)
       (.leaf))
      (.node 131 ⟨1, 8, some (.nilFunc), .scalar⟩
       (.leaf)
       (.leaf)))))
   (.node 141 ⟨1, 1, some (.int .u8 0), .int .u8⟩
    (.node 137 ⟨0, 0, some (.agg #[]), .arr 0 16⟩
     (.node 135 ⟨4, 40, some (.agg #[.pointer none, .pointer none, .pointer none, .string ByteArray.empty]), .agg [(0, 17, 1), (1, 17, 1), (2, 17, 1), (3, 9, 1)] false⟩
      (.node 134 ⟨1, 8, some (.nilFunc), .scalar⟩
       (.node 133 ⟨1, 8, some (.nilFunc), .scalar⟩
        (.leaf)
        (.leaf))
       (.leaf))
      (.node 136 ⟨4, 40, some (.agg #[.pointer none, .pointer none, .pointer none, .string ByteArray.empty]), .agg [(0, 17, 1), (1, 17, 1), (2, 17, 1), (3, 9, 1)] false⟩
       (.leaf)
       (.leaf)))
     (.node 139 ⟨0, 0, some (.agg #[]), .agg [(0, 137, 0)] false⟩
      (.node 138 ⟨0, 0, some (.agg #[]), .agg [(0, 137, 0)] false⟩
       (.leaf)
       (.leaf))
      (.node 140 ⟨1, 8, some (.nilFunc), .scalar⟩
       (.leaf)
       (.leaf))))
    (.node 146 ⟨1, 4, some (.int .i32 0), .int .i32⟩
     (.node 144 ⟨1, 8, some (.pointer none), .ptr 5⟩
      (.node 143 ⟨1, 8, some (.nilFunc), .scalar⟩
       (.node 142 ⟨1, 1, some (.int .u8 0), .int .u8⟩
        (.leaf)
        (.leaf))
       (.leaf))
      (.node 145 ⟨1, 4, some (.int .i32 0), .int .i32⟩
       (.leaf)
       (.leaf)))
     (.node 148 ⟨11, 48, some (.agg #[.int .u64 0, .int .u64 0, .int .u32 0, .int .u8 0, .int .u8 0, .int .u8 0, .int .u8 0, .nilFunc, .pointer none, .int .i32 0, .int .i32 0]), .agg [(0, 12, 1), (1, 12, 1), (2, 119, 1), (3, 141, 1), (4, 5, 1), (5, 5, 1), (6, 142, 1), (7, 143, 1), (8, 144, 1), (9, 145, 1), (10, 146, 1)] false⟩
      (.node 147 ⟨11, 48, some (.agg #[.int .u64 0, .int .u64 0, .int .u32 0, .int .u8 0, .int .u8 0, .int .u8 0, .int .u8 0, .nilFunc, .pointer none, .int .i32 0, .int .i32 0]), .agg [(0, 12, 1), (1, 12, 1), (2, 119, 1), (3, 141, 1), (4, 5, 1), (5, 5, 1), (6, 142, 1), (7, 143, 1), (8, 144, 1), (9, 145, 1), (10, 146, 1)] false⟩
       (.leaf)
       (.leaf))
      (.node 149 ⟨1, 8, some (.pointer none), .scalar⟩
       (.leaf)
       (.leaf)))))))
theorem tbOK : TabOK Try.prog tb := tabOK_of (by kernel_rfl)
end Go.Cg
