import Derived.Test.YtnkfdobcmfdhfaaDoorKB2

